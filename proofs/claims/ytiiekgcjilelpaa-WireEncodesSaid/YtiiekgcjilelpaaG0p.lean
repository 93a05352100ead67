/- G0. -/
import Derived.Test.YtiiekgcjilelpaaBasep
import Derived.StillTail
import Derived.Deep.MidRow
import Derived.Laws.OwnMore
import Derived.Lib.SliceRun
import Derived.Laws.IdiomStrings
open List renaming getElem?_eq_getElem → zaa, getElem?_take → zai, take_of_length_le → zaq, eq_nil_of_length_eq_zero → zaw, replicate → zbg
open Nat renaming le_refl → zbm, zero_add → zbo
open Array renaming getElem?_eq_some_iff → zbp, getD_eq_getD_getElem? → zbr
open Bool renaming and_eq_true → zbs, or_eq_true → zbt
open Classical renaming byContradiction → zbv
set_option linter.unusedSimpArgs false
set_option linter.unusedVariables false
namespace Go.Proofs.Ytiiekgcjilelpaa
open Go.RowKit
theorem yov {α:Type} {xs ys:List α} {k:Nat} (hx:k<xs.length) (hy:k<ys.length):
  xs.take (k+1)=ys.take (k+1)↔xs.take k=ys.take k∧xs[k]=ys[k]:=by
 rw [List.take_succ_eq_append_getElem hx,List.take_succ_eq_append_getElem hy]
 constructor
 ·intro h
  have:=List.append_inj h (by simp;omega)
  exact ⟨this.1,by simpa using this.2⟩
 ·rintro ⟨h1,h2⟩
  rw [h1,h2]
set_option maxHeartbeats 400000 in
theorem same_c (va vb:Value) (xs ys:List UInt8) (w:World) (ha:Bs w va xs) (hb:Bs w vb ys):
  Calls Try.prog 22 #[va,vb] w fun e w'=>e=.returned (.bool (decide (xs=ys)))∧∃ n,w'=w.drewN n:=by
 obtain ⟨ao,ca,rfl,ca1,ca2,ca3,hca⟩:=ha.open
 obtain ⟨bo,cb,rfl,cb1,cb2,cb3,hcb⟩:=hb.open
 clear ha hb
 obtain ⟨na,hna⟩:∃ n,n=xs.length:=⟨_,rfl⟩
 obtain ⟨nb,hnb⟩:∃ n,n=ys.length:=⟨_,rfl⟩
 rw [← hna] at ca1 hca ⊢
 rw [← hnb] at cb1 hcb ⊢
 have Ha:=Lib.hid hca;clear hca
 have Hb:=Lib.hid hcb;clear hcb
 have Na:=Lib.hid hna;clear hna
 have Nb:=Lib.hid hnb;clear hnb
 have Ca:=Lib.hid ca3;clear ca3
 have Cb:=Lib.hid cb3;clear cb3
 by_cases hn:na=nb
 ·subst hn
  go_enter Try.func22,Try.ntmps22
  go_wp2
  go_loopw [5] (fun i wr=>∃ k:Nat,k≤na∧i=.int .i64 k∧Hid (xs.take k=ys.take k)∧∃ n,wr=w.drewN n) (fun i _=>na - (intOf i).toNat)
  case atStart=>exact ⟨0,by omega,rfl,rfl,0,rfl⟩
  case round=>
   obtain ⟨k,hk,rfl,Ht,nd,rfl⟩:=hrel
   by_cases hlt:k<na
   ·obtain ⟨a,rfl⟩:∃ a,ao=some a:=by cases ao with|none=>have:=Ca.out rfl;omega|some a=>exact ⟨a,rfl⟩
    obtain ⟨b,rfl⟩:∃ a,bo=some a:=by cases bo with|none=>have:=Cb.out rfl;omega|some a=>exact ⟨a,rfl⟩
    have hax:=Ha.out a rfl k hlt
    have hbx:=Hb.out b rfl k hlt
    have hts:=yov (xs:=xs) (ys:=ys) (k:=k) (by rw [← Na.out];exact hlt) (by rw [← Nb.out];exact hlt)
    have e1:xs.getD k 0=xs[k]'(by rw [← Na.out];exact hlt):=by simp [List.getD,zaa (show k<xs.length by rw [← Na.out];exact hlt)]
    have e2:ys.getD k 0=ys[k]'(by rw [← Nb.out];exact hlt):=by simp [List.getD,zaa (show k<ys.length by rw [← Nb.out];exact hlt)]
    generalize xs.getD k 0=x at hax e1
    generalize ys.getD k 0=y at hbx e2
    rw [← e1,←e2] at hts
    have Hts:=Lib.hid hts
    clear hts e1 e2
    by_cases hxy:x=y
    ·subst hxy
     go_wp2
     go_quiet (fail)
     go_wp2
     go_roundw
     case rel=>exact ⟨k+1,by omega,by go_num,Lib.hid (Hts.out.2 (by simp [Ht.out])),_,rfl⟩
     case measure=>simp [intOf];omega
    ·have hne:((x.toNat:Int) != (y.toNat:Int))=true:=by
      rw [bne_iff_ne];intro h;exact hxy (UInt8.toNat_inj.1 (by omega))
     go_wp2
     go_quiet (fail)
     go_wp2
     go_ret
     refine ⟨?_,_,World.drewN_drewN _ _ _⟩
     have:¬ xs=ys:=by
      intro h;have:=Hts.out.1 (by rw [h]);exact hxy this.2
     simp [this]
   ·go_wp2
    go_ret
    refine ⟨?_,_,rfl⟩
    have h1:xs=ys:=by
     have:=Ht.out
     rwa [zaq (by rw [← Na.out];omega),zaq (by rw [← Nb.out];omega)] at this
    simp [h1]
 ·have hnn:((na:Int) != (nb:Int))=true:=by rw [bne_iff_ne];omega
  have H:¬ xs=ys:=by intro h;apply hn;rw [Na.out,Nb.out,h]
  have H':=Lib.hid H
  clear H
  go_enter Try.func22,Try.ntmps22
  go_wp2
  go_ret
  exact ⟨by simp [H'.out],0,rfl⟩
theorem ydp:ElemT Try.prog 37 5 1 1:=ElemT.mk' Try.underlying37 (z:=.int .u8 0) (by kernel_rfl) rfl (by decide)
section
variable {P:Program}
def yai (P:Program) (Post:Value→World→Prop):Result Next→Prop
 |.ok (.value v) w'=>Post v w'
 |.ok .skip w'=>Post undef w'
 |.ok (.enter f args) w'=>Calls P f args w' (fun e w''=>∃ v,e=.returned v∧Post v w'')
 |_=>False
def yey (P:Program) (o:Oper) (a:Act) (w:World) (Post:Value→World→Prop):Prop:=yai P Post ((execOp a.eval o).run P w)
@[go_sem] theorem gives_eq {P:Program} {o:Oper} {a:Act} {w:World} {Post:Value→World→Prop}:yey P o a w Post=yai P Post ((execOp a.eval o).run P w):=rfl
attribute [go_sem] yai
def yby:List Oper→Nat→(Nat→Value)→(Nat→Bool)→Act→Act
 |[],_,_,_,a=>a
 |o::os,i,vals,p,a=>yby os (i+1) vals p (if p i=true then a.put o.dst (vals i) else a)
def full (l:List Oper) (vals:Nat→Value) (a:Act):Act:=yby l 0 vals (fun _=>true) a
def upd {α:Type} (f:Nat→α) (i:Nat) (v:α):Nat→α:=fun j=>if j=i then v else f j
theorem ydh:∀ (l:List Oper) (k:Nat) (vals vals':Nat→Value) (p p':Nat→Bool) (a:Act),(∀ j,k≤j→j<k+l.length→p j=p' j∧(p j=true→vals j=vals' j))→
  yby l k vals p a=yby l k vals' p' a
 |[],_,_,_,_,_,_,_=>rfl
 |o::os,k,vals,vals',p,p',a,h=>by
  have h0:=h k (zbm _) (by simp)
  simp only [yby]
  rw [show (if p k=true then a.put o.dst (vals k) else a)=(if p' k=true then a.put o.dst (vals' k) else a) by
   rw [← h0.1];split
   ·rename_i hp;rw [h0.2 hp]
   ·rfl]
  exact ydh os (k+1) _ _ _ _ _ fun j h1 h2=>h j (by omega) (by simp only [List.length_cons];omega)
theorem yqb:∀ (l:List Oper) (k:Nat) (vals:Nat→Value) (p:Nat→Bool) (a:Act) (d:Option Tmp) (v:Value),(∀ (j:Nat) (o:Oper),l[j]? =some o→∀ t,d=some t→o.dst≠some t)→
  yby l k vals p (a.put d v)=(yby l k vals p a).put d v
 |[],_,_,_,_,_,_,_=>rfl
 |o::os,k,vals,p,a,d,v,h=>by
  have h0:=h 0 o rfl
  simp only [yby]
  have e:(if p k=true then (a.put d v).put o.dst (vals k) else a.put d v)=(if p k=true then a.put o.dst (vals k) else a).put d v:=by
   split
   ·exact Act.put_comm a v (vals k) (fun t ht=>h0 t ht)
   ·rfl
  rw [e]
  exact yqb os (k+1) vals p _ d v fun j o' hj=>h (j+1) o' hj
theorem ykx:∀ (l:List Oper) (k i:Nat) (vals:Nat→Value) (p:Nat→Bool) (a:Act) (o:Oper) (v:Value),l[i]? =some o→p (k+i)=false→
  (∀ (j:Nat) (o':Oper),l[j]? =some o'→i<j→∀ t,o.dst=some t→o'.dst≠some t)→
  yby l k (upd vals (k+i) v) (upd p (k+i) true) a=(yby l k vals p a).put o.dst v
 |o::os,k,0,vals,p,a,_,v,hi,hp,hd=>by
  simp only [List.getElem?_cons_zero,Option.some.injEq] at hi
  subst hi
  simp only [yby,Nat.add_zero,upd,if_true] at hp ⊢
  rw [if_neg (by rw [hp];simp)]
  rw [← yqb os (k+1) vals p a o.dst v (fun j o' hj t ht=>hd (j+1) o' hj (by omega) t ht)]
  exact ydh os (k+1) _ _ _ _ _ fun j h1 h2=>by
   have hne:¬ j=k:=by omega
   simp [upd,hne]
 |x::os,k,i+1,vals,p,a,o,v,hi,hp,hd=>by
  simp only [List.getElem?_cons_succ] at hi
  have ih:=ykx os (k+1) i vals p (if p k=true then a.put x.dst (vals k) else a) o v hi (by rw [show k+1+i=k+(i+1) by omega];exact hp)
   (fun j o' hj hij=>hd (j+1) o' hj (by omega))
  rw [show k+1+i=k+(i+1) by omega] at ih
  simp only [yby]
  rw [← ih]
  have hne:¬ k=k+(i+1):=by omega
  simp [upd,hne]
 |[],_,i,_,_,_,_,_,hi,_,_=>by simp at hi
def AgreeOn (L:List Tmp) (a b:Act):Prop:=a.tmps.size=b.tmps.size∧∀ t∈L,a.tmps[t]? =b.tmps[t]?
theorem AgreeOn.put_both {L:List Tmp} {a b:Act} (h:AgreeOn L a b) (d:Option Tmp) (v:Value):AgreeOn L (a.put d v) (b.put d v):=by
 cases d with
 |none=>exact h
 |some t=>
  refine ⟨by simp [Act.put,h.1],fun u hu=>?_⟩
  simp only [Act.put,Array.getElem?_setIfInBounds]
  split
  ·rw [h.1]
  ·exact h.2 u hu
theorem AgreeOn.put_right {L:List Tmp} {a b:Act} (h:AgreeOn L a b) (d:Option Tmp) (v:Value) (hd:∀ t,d=some t→t ∉ L):AgreeOn L a (b.put d v):=by
 cases d with
 |none=>exact h
 |some t=>
  refine ⟨by simp [Act.put,h.1],fun u hu=>?_⟩
  have hne:t≠u:=fun e=>hd t rfl (e▸hu)
  simp only [Act.put]
  rw [Array.getElem?_setIfInBounds_ne hne]
  exact h.2 u hu
theorem yir (L:List Tmp):∀ (l:List Oper) (k:Nat) (vals:Nat→Value) (p:Nat→Bool) (a b:Act),AgreeOn L a b→
  (∀ (j:Nat) (o:Oper),l[j]? =some o→p (k+j)=false→∀ t,o.dst=some t→t ∉ L)→AgreeOn L (yby l k vals p a) (yby l k vals (fun _=>true) b)
 |[],_,_,_,_,_,h,_=>h
 |o::os,k,vals,p,a,b,h,hp=>by
  simp only [yby,if_true]
  refine yir L os (k+1) vals p _ _ ?_ fun j o' hj hpj=>hp (j+1) o' hj (by rw [show k+(j+1)=k+1+j by omega];exact hpj)
  split
  ·exact h.put_both _ _
  ·rename_i hk
   exact h.put_right _ _ (hp 0 o rfl (by simpa using hk))
theorem yf5 {ops:Array Oper} (o:Oper) (hs:∀ cs b,o.op≠.select cs b) {a b:Act} (h:AgreeOn (o.looksAt ops) a b):execOp a.eval o=execOp b.eval o:=
 execOp_congr o hs fun x hx=>by
  cases x with
  |tmp t=>
   have:=h.2 t (List.mem_append_left _ (List.mem_filterMap.2 ⟨.tmp t,by simpa using hx,rfl⟩))
   simp only [Act.eval,zbr,this]
  |_=>rfl
theorem yis {ops:Array Oper} (o:Oper) {a b:Act} (h:AgreeOn (o.looksAt ops) a b):Region.wanted o (yielded ops a.tmps)=Region.wanted o (yielded ops b.tmps):=by
 unfold Region.wanted
 cases hg:o.guard with
 |none=>rfl
 |some gw=>
  obtain ⟨g,want⟩:=gw
  have hy:yielded ops a.tmps g=yielded ops b.tmps g:=by
   unfold yielded
   cases ht:(ops[g]?).bind (·.dst) with
   |none=>rfl
   |some t=>
    have:=h.2 t (by simp [Oper.looksAt,hg,ht])
    rw [Option.bind_some,Option.bind_some,this]
  exact congrArg (·==some want) hy
def cnt:Nat→Array Bool→Nat
 |0,_=>0
 |k+1,L=>cnt k L+(if L.getD k false=true then 0 else 1)
theorem ymn {i:Nat} {L:Array Bool}:∀ n,n≤i→cnt n (L.setIfInBounds i true)=cnt n L
 |0,_=>rfl
 |n+1,h=>by simp only [cnt];rw [ymn n (by omega),getD_set_ne false (by omega)]
theorem ysw {i:Nat} {L:Array Bool} (hL:i<L.size) (hi:L.getD i false=false):∀ n,i<n→cnt n L=cnt n (L.setIfInBounds i true)+1
 |0,h=>absurd h (by omega)
 |n+1,h=>by
  simp only [cnt]
  by_cases he:i=n
  ·subst he
   rw [ymn i (zbm _),hi]
   have:(L.setIfInBounds i true).getD i false=true:=by simp [hL]
   rw [this]
   simp
  ·rw [ysw hL hi n (by omega),getD_set_ne false he]
   omega
theorem yob {L:Array Bool}:∀ n,cnt n L=0→∀ i,i<n→L.getD i false=true
 |0,_,i,h=>absurd h (by omega)
 |n+1,h,i,hi=>by
  simp only [cnt] at h
  by_cases he:i=n
  ·subst he
   cases hb:L.getD i false with
   |true=>rfl
   |false=>rw [hb] at h;simp at h
  ·exact yob n (by omega) i (by omega)
theorem yk8:∀ n m,cnt n (Array.replicate m false)=n
 |0,_=>rfl
 |n+1,m=>by simp only [cnt];rw [yk8 n m,getD_replicate_false];simp
def rgB (l:List Oper) (n:Nat):Bool:=
 Region.noSelect l.toArray&&decide (n≤l.length)&&
 (decide (n=l.length)||(decide (n<l.length)&&Region.sinkB .any l.toArray n&&Region.chainB .any l.toArray n))&&
 Region.seqB .any l.toArray (l.length - n) n ((List.range l.length).map (fun i=>decide (i<n))).toArray&&
 ((List.range n).all fun i=>match l[i]? with
  |none=>false
  |some o=>o.after.all (fun e=>!Region.binds .any e||decide (e.on<i))&&
   (List.range n).all fun j=>match l[j]? with
    |none=>false
    |some oj=>(decide (j≤i)||(match o.dst with|none=>true|some d=>oj.dst != some d))&&
     (o.after.any (fun e=>Region.binds .any e&&e.on==j)||(match oj.dst with|none=>true|some d=>!(o.looksAt l.toArray).contains d)))
structure RgSpec (l:List Oper) (n:Nat):Prop where
 sel:∀ (j:Nat) (o:Oper) cs b,l.toArray[j]? =some o→o.op≠.select cs b
 le:n≤l.length
 tail:n=l.length∨(n<l.length∧Region.sinkB .any l.toArray n=true∧Region.chainB .any l.toArray n=true)
 seq:Region.seqB .any l.toArray (l.length - n) n ((List.range l.length).map (fun i=>decide (i<n))).toArray=true
 before:∀ i o,i<n→l[i]? =some o→∀ e∈o.after,Region.binds .any e=true→e.on<i
 apart:∀ i j o oj,i<n→j<n→i<j→l[i]? =some o→l[j]? =some oj→∀ d,o.dst=some d→oj.dst≠some d
 looks:∀ i j o oj,i<n→j<n→l[i]? =some o→l[j]? =some oj→(∃ e∈o.after,Region.binds .any e=true∧e.on=j)∨∀ d,oj.dst=some d→d ∉ o.looksAt l.toArray
theorem yjg {l:List Oper} {n:Nat} (h:rgB l n=true):RgSpec l n:=by
 simp only [rgB,zbs,zbt,decide_eq_true_eq] at h
 obtain ⟨⟨⟨⟨h1,h2⟩,h3⟩,h4⟩,h5⟩:=h
 have key:∀ i o,i<n→l[i]? =some o→(∀ e∈o.after,Region.binds .any e=true→e.on<i)∧∀ j oj,j<n→l[j]? =some oj→
   (j≤i∨∀ d,o.dst=some d→oj.dst≠some d)∧((∃ e∈o.after,Region.binds .any e=true∧e.on=j)∨∀ d,oj.dst=some d→d ∉ o.looksAt l.toArray):=by
  intro i o hi ho
  have:=List.all_eq_true.1 h5 i (List.mem_range.2 hi)
  simp only [ho,zbs] at this
  refine ⟨fun e he hb=>?_,fun j oj hj hoj=>?_⟩
  ·have h6:=Array.all_eq_true_iff_forall_mem.1 this.1 e he
   simpa [hb] using h6
  ·have h6:=List.all_eq_true.1 this.2 j (List.mem_range.2 hj)
   simp only [hoj,zbs,zbt,decide_eq_true_eq] at h6
   refine ⟨h6.1.imp id fun h7 d hd=>?_,h6.2.imp (fun h7=>?_) fun h7 d hd=>?_⟩
   ·rw [hd] at h7;simpa using h7
   ·obtain ⟨e,he,hb⟩:=Array.any_eq_true'.1 h7
    simp only [zbs,beq_iff_eq] at hb
    exact ⟨e,he,hb.1,hb.2⟩
   ·rw [hd] at h7;simpa using h7
 exact ⟨Region.noSelect_spec h1,h2,h3.imp id fun h=>⟨h.1.1,h.1.2,h.2⟩,h4,fun i o hi ho=>(key i o hi ho).1,
  fun i j o oj hi hj hij ho hoj=>(((key i o hi ho).2 j oj hj hoj).1).resolve_left (by omega),fun i j o oj hi hj ho hoj=>((key i o hi ho).2 j oj hj hoj).2⟩
def Deps (V:Nat→Value→World→Prop) (vals:Nat→Value) (w:World) (o:Oper):Prop:=∀ e∈o.after,Region.binds .any e=true→V e.on (vals e.on) w
def RgOp (P:Program) (l:List Oper) (n s:Nat) (C:Bool→World→Prop) (R:World→World→Prop) (V:Nat→Value→World→Prop) (a:Act) (i:Nat) (o:Oper):Prop:=
 if i=s then ∀ (vals:Nat→Value) (w:World),C false w→Deps V vals w o→Region.wanted o (yielded l.toArray (full (l.take n) vals a).tmps)=true∧
   yey P o (full (l.take n) vals a) w (fun v w'=>C true w'∧V i v w'∧∀ j,j<n→j≠i→∀ u,V j u w→V j u w')
 else ∀ (b:Bool) (vals:Nat→Value) (w:World),(b=true→∀ os,l[s]? =some os→∀ e∈os.after,Region.binds .any e=true→e.on≠i)→C b w→Deps V vals w o→
  if Region.wanted o (yielded l.toArray (full (l.take n) vals a).tmps)=true then yey P o (full (l.take n) vals a) w (fun v w'=>R w w'∧V i v w') else V i undef w
def RgOps (P:Program) (l:List Oper) (n s:Nat) (C:Bool→World→Prop) (R:World→World→Prop) (V:Nat→Value→World→Prop) (a:Act):Nat→List Oper→Prop
 |_,[]=>True
 |i,o::os=>RgOp P l n s C R V a i o∧RgOps P l n s C R V a (i+1) os
theorem RgOps.get {l:List Oper} {n s:Nat} {C:Bool→World→Prop} {R:World→World→Prop} {V:Nat→Value→World→Prop} {a:Act}:
  ∀ (os:List Oper) (k:Nat),RgOps P l n s C R V a k os→∀ j o,os[j]? =some o→RgOp P l n s C R V a (k+j) o
 |x::os,k,h,0,o,ho=>by simp at ho;subst ho;exact h.1
 |x::os,k,h,j+1,o,ho=>by
  have:=RgOps.get os (k+1) h.2 j o (by simpa using ho)
  rwa [show k+1+j=k+(j+1) by omega] at this
 |[],_,_,j,o,ho=>by simp at ho
theorem yhy {o:Oper} {a b:Act} {w:World} {Post:Value→World→Prop} {K:Act→World→Prop} {Q:Exit→Act→World→Prop} (he:execOp b.eval o=execOp a.eval o)
  (h:yey P o a w Post) (hK:∀ v w',Post v w'→K (b.put o.dst v) w'):o.wp P b w K Q:=by
 unfold yey at h
 unfold Oper.wp
 rw [he]
 generalize (execOp a.eval o).run P w=r at *
 cases r with
 |ok x w'=>
  cases x<;>simp only [yai] at h<;>simp only [Oper.upon]
  case value v=>exact hK _ _ h
  case skip=>exact hK _ _ h
  case enter f args=>exact h.mono fun e w'' ⟨v,he,hp⟩=>by subst he;exact hK _ _ hp
 |halt x w'=>simp only [yai] at h
theorem rg_run {l:List Oper} {n s:Nat} {C:Bool→World→Prop} {R:World→World→Prop} {V:Nat→Value→World→Prop} {a:Act} {Q:Exit→Act→World→Prop} (S:RgSpec l n)
  (hR0:∀ b w,C b w→R w w) (hCR:∀ b w w',C b w→R w w'→C b w') (hVR:∀ b i v w w',i<n→C b w→V i v w→R w w'→V i v w')
  (hops:∀ i o,i<n→l[i]? =some o→RgOp P l n s C R V a i o)
  (hend:∀ vals w,C (decide (s<n)) w→(∀ i,i<n→V i (vals i) w)→wpList P l.toArray Q (l.drop n) (full (l.take n) vals a) w):
  ∀ (c:Nat) (listed:Array Bool) (w:World) (vals:Nat→Value),cnt n listed=c→HeadInv .any l.toArray n listed→C (decide (s<n)&&listed.getD s false) w→(∀ i,i<n→listed.getD i false=true→V i (vals i) w)→
   wpAny P .any l.toArray Q (c+(l.length - n)) listed (yby (l.take n) 0 vals (fun i=>listed.getD i false) a) w
 |0,listed,w,vals,hc,inv,hC,hV=>by
  have hall:=yob n hc
  have hfull:yby (l.take n) 0 vals (fun i=>listed.getD i false) a=full (l.take n) vals a:=
   ydh _ _ _ _ _ _ _ fun j _ hj=>⟨hall j (by have:=S.le;simp at hj;omega),fun _=>rfl⟩
  have hL:listed=((List.range l.length).map (fun i=>decide (i<n))).toArray:=by
   apply Array.ext
   ·have:=inv.size;simpa using this
   ·intro i h1 h2
    have hil:i<l.length:=by have:=inv.size;simp at this;omega
    by_cases hin:i<n
    ·have:=hall i hin
     simp [h1] at this
     simp [this,hin]
    ·have:=inv.tail i (by omega) (by simpa using hil)
     simp [h1] at this
     simp [this];omega
  have hs:=S.seq
  rw [← hL] at hs
  rw [hfull,zbo]
  have hdl:(l.drop n).length=l.length - n:=by simp
  have:=wpAny_of_seq (P:=P) (md:=.any) (Q':=Q) (l.drop n) n listed (full (l.take n) vals a) w (fun j=>by simp [List.getElem?_drop]) (by rw [hdl];exact hs) (hend vals w (by by_cases hs:s<n;rw [hall s hs,Bool.and_true] at hC;exact hC;simpa [hs] using hC) fun i hi=>hV i hi (hall i hi))
  rwa [hdl] at this
 |c+1,listed,w,vals,hc,inv,hC,hV=>by
  rw [show c+1+(l.length - n)=(c+(l.length - n))+1 by omega]
  -- some operation of the head is not listed, and the least of them is ready
  have hex:∃ i,i<n∧listed.getD i false=false:=by
   apply zbv
   intro hno
   have:∀ m,m≤n→cnt m listed=0:=by
    intro m
    induction m with
    |zero=>intro _;rfl
    |succ m ih=>
     intro hm
     simp only [cnt]
     rw [ih (by omega)]
     cases hb:listed.getD m false with
     |true=>rfl
     |false=>exact absurd ⟨m,by omega,hb⟩ hno
   rw [this n (zbm _)] at hc
   omega
  have hleast:∃ i,i∈Region.ready .any l.toArray listed∧i<n∧listed.getD i false=false:=by
   obtain ⟨i,hi⟩:=hex
   induction i using Nat.strongRecOn with
   |_ i ih=>
    have hil:i<l.length:=by have:=S.le;omega
    have hol:l[i]? =some l[i]:=zaa hil
    by_cases hd:∀ e∈l[i].after,Region.binds .any e=true→listed.getD e.on false=true
    ·refine ⟨i,mem_ready.2 ⟨getD_in (by have:=inv.size;simp at this;omega) hi.2,l[i],by simp,hd⟩,hi⟩
    ·have:∃ e∈l[i].after,Region.binds .any e=true∧listed.getD e.on false=false:=by
      apply zbv
      intro hno
      exact hd fun e he hb=>by
       cases hb':listed.getD e.on false with
       |true=>rfl
       |false=>exact absurd ⟨e,he,hb,hb'⟩ hno
     obtain ⟨e,he,hb,hf⟩:=this
     have hlt:=S.before i l[i] hi.1 hol e he hb
     exact ih e.on hlt ⟨by omega,hf⟩
  obtain ⟨i₀,hr₀,hn₀,hu₀⟩:=hleast
  refine ⟨fun h0=>by rw [h0] at hr₀;simp at hr₀,fun i hi=>?_⟩
  have hin:i<n:=by
   rcases S.tail with he|⟨hlt,hs,hch⟩
   ·have:=(mem_ready.1 hi).2
    obtain ⟨o,ho,_⟩:=this
    have:=(zbp.1 ho).1
    simp at this;omega
   ·rcases Nat.lt_or_ge i n with h|h
    ·exact h
    ·exact absurd hi (tail_waits hs hch (by simp;exact hlt) inv _ i₀ rfl hn₀ (getD_in (by have:=inv.size;have:=S.le;simp at *;omega) hu₀) i h)
  obtain ⟨hun,o,ho,hdeps⟩:=mem_ready.1 hi
  have hol:l[i]? =some o:=by simpa using ho
  have huf:listed.getD i false=false:=getD_both hun
  have hdp:Deps V vals w o:=fun e he hb=>hV e.on (by have:=S.before i o hin hol e he hb;omega) (hdeps e he hb)
  have hop:=hops i o hin hol
  have hag:AgreeOn (o.looksAt l.toArray) (yby (l.take n) 0 vals (fun i=>listed.getD i false) a) (full (l.take n) vals a):=by
   refine yir _ (l.take n) 0 vals _ a a ⟨rfl,fun _ _=>rfl⟩ fun j oj hj hpj t ht=>?_
   rw [zai] at hj
   split at hj
   ·rename_i hjn
    rcases S.looks i j o oj hin hjn hol hj with ⟨e,he,hb,hon⟩|hno
    ·have:=hdeps e he hb
     rw [hon] at this
     rw [zbo] at hpj
     rw [this] at hpj;cases hpj
    ·exact hno t ht
   ·cases hj
  have hnext:∀ v w',C (decide (s<n)&&(listed.setIfInBounds i true).getD s false) w'→V i v w'→(∀ j,j<n→j≠i→∀ u,V j u w→V j u w')→wpAny P .any l.toArray Q (c+(l.length - n)) (listed.setIfInBounds i true) ((yby (l.take n) 0 vals (fun i=>listed.getD i false) a).put o.dst v) w':=by
   intro v w' hC' hVi hst
   have hsz:i<listed.size:=by have:=inv.size;have:=S.le;simp at *;omega
   have hset:=ykx (l.take n) 0 i vals (fun i=>listed.getD i false) a o v (by rw [zai,if_pos hin];exact hol) (by rw [zbo];exact huf) (fun j oj hj hij t ht=>by
    rw [zai] at hj
    split at hj
    ·rename_i hjn;exact S.apart i j o oj hin hjn hij hol hj t ht
    ·cases hj)
   rw [← hset,zbo]
   have hcn:cnt n (listed.setIfInBounds i true)=c:=by have:=ysw hsz huf n hin;omega
   have e:yby (l.take n) 0 (upd vals i v) (upd (fun i=>listed.getD i false) i true) a=yby (l.take n) 0 (upd vals i v) (fun j=>(listed.setIfInBounds i true).getD j false) a:=
    ydh _ _ _ _ _ _ _ fun j _ _=>⟨by
     by_cases hji:j=i
     ·subst hji;simp [upd,hsz]
     ·simp only [upd,if_neg hji];rw [getD_set_ne false (Ne.symm hji)],fun _=>rfl⟩
   rw [e]
   refine rg_run S hR0 hCR hVR hops hend c _ w' _ hcn (inv.set hi hin) hC' fun j hj hl=>?_
   by_cases hji:j=i
   ·subst hji;simp only [upd,if_true];exact hVi
   ·rw [getD_set_ne false (Ne.symm hji)] at hl
    have:=hst j hj hji (vals j) (hV j hj hl)
    simpa [upd,hji] using this
  unfold wpOp
  rw [ho]
  dsimp only
  rw [yis o hag]
  unfold RgOp at hop
  by_cases his:i=s
  ·rw [if_pos his] at hop
   subst his
   have hC0:C false w:=by rw [huf,Bool.and_false] at hC;exact hC
   obtain ⟨hw,hg⟩:=hop vals w hC0 hdp
   rw [if_pos hw]
   have hsz:i<listed.size:=by have:=inv.size;have:=S.le;simp at *;omega
   refine .inl (yhy (yf5 o (S.sel i o · · ho) hag) hg fun v w' ⟨h1,h2,h3⟩=>hnext v w' ?_ h2 h3)
   have:(listed.setIfInBounds i true).getD i false=true:=by simp [hsz]
   rw [this,Bool.and_true,decide_eq_true hin]
   exact h1
  ·rw [if_neg his] at hop
   have hop:=hop _ vals w (fun hb os hos e he hbd heq=>by
    rw [zbs] at hb
    have:=inv.closed s os (by simpa using hos) hb.2 e he hbd
    rw [heq,huf] at this;cases this) hC hdp
   have hsame:(listed.setIfInBounds i true).getD s false=listed.getD s false:=getD_set_ne false his
   by_cases hw:Region.wanted o (yielded l.toArray (full (l.take n) vals a).tmps)=true
   ·rw [if_pos hw] at hop ⊢
    exact .inl (yhy (yf5 o (S.sel i o · · ho) hag) hop fun v w' ⟨hR,hVi⟩=>hnext v w' (by rw [hsame];exact hCR _ _ _ hC hR) hVi fun j hj _ u hu=>hVR _ j u w w' hj hC hu hR)
   ·rw [if_neg hw] at hop ⊢
    exact hnext undef w (by rw [hsame];exact hC) hop fun j hj _ u hu=>hu
theorem yhd {id:Nat} {l:List Oper} {a:Act} {w:World} {Q:Exit→Act→World→Prop} (n s:Nat) (C:Bool→World→Prop) (R:World→World→Prop) (V:Nat→Value→World→Prop)
  (hm:P.follows .mixedOrders=true) (S:RgSpec l n) (hC:C false w.drew)
  (hR0:∀ b w,C b w→R w w) (hCR:∀ b w w',C b w→R w w'→C b w') (hVR:∀ b i v w w',i<n→C b w→V i v w→R w w'→V i v w')
  (hops:RgOps P l n s C R V a 0 (l.take n))
  (hend:∀ vals w,C (decide (s<n)) w→(∀ i,i<n→V i (vals i) w)→wpList P l.toArray Q (l.drop n) (full (l.take n) vals a) w):(Code.region id l.toArray true).wp P Q a w:=by
 refine wp_region_any hm ?_
 have inv0:HeadInv .any l.toArray n (Array.replicate l.toArray.size false):=
  ⟨by simp,fun j oj _ hl=>(by rw [getD_replicate_false] at hl;cases hl),fun t _ ht=>getD_in (by simpa using ht) (getD_replicate_false _ _)⟩
 have:=rg_run (Q:=Q) S hR0 hCR hVR (fun i o hi ho=>by
   have:=RgOps.get (l.take n) 0 hops i o (by rw [zai,if_pos hi];exact ho)
   rwa [zbo] at this) hend n (Array.replicate l.toArray.size false) w.drew (fun _=>undef) (yk8 n _) inv0 (by rw [getD_replicate_false,Bool.and_false];exact hC) (fun i hi hl=>by rw [getD_replicate_false] at hl;cases hl)
 have e:yby (l.take n) 0 (fun _=>undef) (fun i=>(Array.replicate l.toArray.size false).getD i false) a=a:=by
  have:∀ (os:List Oper) (k:Nat),yby os k (fun _=>undef) (fun _=>false) a=a:=by
   intro os
   induction os with
   |nil=>intro k;rfl
   |cons o os ih=>intro k;simp only [yby,Bool.false_eq_true,if_false];exact ih (k+1)
  simp only [getD_replicate_false]
  exact this _ _
 rw [e,show n+(l.length - n)=l.toArray.size by have:=S.le;simp;omega] at this
 exact this
theorem ymw {id:Nat} {l:List Oper} {a:Act} {w:World} {Q:Exit→Act→World→Prop} (n s:Nat) (C:Bool→World→Prop) (R:World→World→Prop) (V:Nat→Value→World→Prop)
  (hm:P.follows .mixedOrders=true) (hB:rgB l n=true) (hC:C false w.drew)
  (hR0:∀ b w,C b w→R w w) (hCR:∀ b w w',C b w→R w w'→C b w') (hVR:∀ b i v w w',i<n→C b w→V i v w→R w w'→V i v w')
  (hops:RgOps P l n s C R V a 0 (l.take n))
  (hend:∀ vals w,C (decide (s<n)) w→(∀ i,i<n→V i (vals i) w)→wpList P l.toArray Q (l.drop n) (full (l.take n) vals a) w):(Code.region id l.toArray true).wp P Q a w:=
 yhd n s C R V hm (yjg hB) hC hR0 hCR hVR hops hend
theorem yoo {id:Nat} {l:List Oper} {a:Act} {w:World} {Q:Exit→Act→World→Prop} (n:Nat) (C:World→Prop) (R:World→World→Prop) (V:Nat→Value→World→Prop)
  (hm:P.follows .mixedOrders=true) (hB:rgB l n=true) (hC:C w.drew)
  (hR0:∀ w,C w→R w w) (hCR:∀ w w',C w→R w w'→C w') (hVR:∀ i v w w',i<n→C w→V i v w→R w w'→V i v w')
  (hops:RgOps P l n n (fun _=>C) R V a 0 (l.take n))
  (hend:∀ vals w,C w→(∀ i,i<n→V i (vals i) w)→wpList P l.toArray Q (l.drop n) (full (l.take n) vals a) w):(Code.region id l.toArray true).wp P Q a w:=
 ymw n n (fun _=>C) R V hm hB hC (fun _=>hR0) (fun _=>hCR) (fun _=>hVR) hops hend
def ex (x:Value):Value→World→Prop:=fun v _=>v=x
def vlist (vs:List (Value→World→Prop)):Nat→Value→World→Prop:=fun i=>vs.getD i fun _ _=>True
theorem RgOps.mk {l:List Oper} {n s:Nat} {C:Bool→World→Prop} {R:World→World→Prop} {V:Nat→Value→World→Prop} {a:Act} {i:Nat} {o:Oper} {os:List Oper}
  (h:RgOp P l n s C R V a i o) (h':RgOps P l n s C R V a (i+1) os):RgOps P l n s C R V a i (o::os):=⟨h,h'⟩
theorem RgOp.on {l:List Oper} {n s:Nat} {C:Bool→World→Prop} {R:World→World→Prop} {V:Nat→Value→World→Prop} {a:Act} {i:Nat} {o:Oper} (hi:i≠s)
  (h:∀ (b:Bool) (vals:Nat→Value) (w:World),C b w→Deps V vals w o→Region.wanted o (yielded l.toArray (full (l.take n) vals a).tmps)=true∧yey P o (full (l.take n) vals a) w (fun v w'=>R w w'∧V i v w')):RgOp P l n s C R V a i o:=by
 unfold RgOp
 rw [if_neg hi]
 intro b vals w _ hC hd
 obtain ⟨h1,h2⟩:=h b vals w hC hd
 rw [if_pos h1]
 exact h2
theorem RgOp.off {l:List Oper} {n s:Nat} {C:Bool→World→Prop} {R:World→World→Prop} {V:Nat→Value→World→Prop} {a:Act} {i:Nat} {o:Oper} (hi:i≠s)
  (h:∀ (b:Bool) (vals:Nat→Value) (w:World),C b w→Deps V vals w o→Region.wanted o (yielded l.toArray (full (l.take n) vals a).tmps)=false∧V i undef w):RgOp P l n s C R V a i o:=by
 unfold RgOp
 rw [if_neg hi]
 intro b vals w _ hC hd
 obtain ⟨h1,h2⟩:=h b vals w hC hd
 rw [if_neg (by rw [h1];decide)]
 exact h2
theorem RgOps.done {l:List Oper} {n s:Nat} {C:Bool→World→Prop} {R:World→World→Prop} {V:Nat→Value→World→Prop} {a:Act} {i:Nat}:RgOps P l n s C R V a i []:=trivial
def StL (R:World→World→Prop):List (Value→World→Prop)→Prop
 |[]=>True
 |f::fs=>(∀ v w w',f v w→R w w'→f v w')∧StL R fs
theorem StL.vlist {R:World→World→Prop}:∀ {vs:List (Value→World→Prop)},StL R vs→∀ (i:Nat) (v:Value) (w w':World),vlist vs i v w→R w w'→vlist vs i v w'
 |[],_,_,_,_,_,_,_=>by simp [Go.Proofs.Ytiiekgcjilelpaa.vlist]
 |f::fs,hs,0,v,w,w',h,hR=>hs.1 v w w' h hR
 |f::fs,hs,i+1,v,w,w',h,hR=>by
  have:=StL.vlist hs.2 i v w w' (by simpa [Go.Proofs.Ytiiekgcjilelpaa.vlist] using h) hR
  simpa [Go.Proofs.Ytiiekgcjilelpaa.vlist] using this
def StLx (R:World→World→Prop):Nat→List (Value→World→Prop)→Prop
 |_,[]=>True
 |0,_::fs=>StL R fs
 |k+1,f::fs=>(∀ v w w',f v w→R w w'→f v w')∧StLx R k fs
theorem StLx.vlist {R:World→World→Prop}:∀ {k:Nat} {vs:List (Value→World→Prop)},StLx R k vs→∀ (i:Nat) (v:Value) (w w':World),i≠k→vlist vs i v w→R w w'→vlist vs i v w'
 |_,[],_,_,_,_,_,_,_,_=>by simp [Go.Proofs.Ytiiekgcjilelpaa.vlist]
 |0,f::fs,_,0,_,_,_,h0,_,_=>absurd rfl h0
 |0,f::fs,hs,i+1,v,w,w',_,h,hR=>by
  have:=StL.vlist (vs:=fs) hs i v w w' (by simpa [Go.Proofs.Ytiiekgcjilelpaa.vlist] using h) hR
  simpa [Go.Proofs.Ytiiekgcjilelpaa.vlist] using this
 |k+1,f::fs,hs,0,v,w,w',_,h,hR=>hs.1 v w w' h hR
 |k+1,f::fs,hs,i+1,v,w,w',h0,h,hR=>by
  have:=StLx.vlist (k:=k) (vs:=fs) hs.2 i v w w' (by omega) (by simpa [Go.Proofs.Ytiiekgcjilelpaa.vlist] using h) hR
  simpa [Go.Proofs.Ytiiekgcjilelpaa.vlist] using this
theorem yaq {R:World→World→Prop} {x:Value}:∀ v w w',ex x v w→R w w'→ex x v w':=fun _ _ _ h _=>h
attribute [irreducible] RgOps RgOp yey
attribute [go_sem] full yby vlist ex
end
section
variable {P:Program}
def yap (P:Program) (o:Oper) (ρ:Operand→Value) (w:World) (Post:Value→World→Prop):Prop:=yai P Post ((execOp ρ o).run P w)
@[go_sem] theorem ykr {P:Program} {o:Oper} {ρ:Operand→Value} {w:World} {Post:Value→World→Prop}:yap P o ρ w Post=yai P Post ((execOp ρ o).run P w):=rfl
def wrt (t:Nat):List Oper→Nat→Option Nat→Option Nat
 |[],_,r=>r
 |o::os,i,r=>wrt t os (i+1) (match o.dst with|some u=>if Nat.beq u t=true then some i else r|none=>r)
def look (l:List Oper) (vals:Nat→Value) (a:Act) (t:Nat):Value:=match wrt t l 0 none with|some i=>vals i|none=>a.tmps.getD t undef
def dstB (l:List Oper) (sz:Nat):Bool:=l.all fun o=>match o.dst with|some u=>decide (u<sz)|none=>true
def DstOk (l:List Oper) (a:Act):Prop:=∀ o∈l,∀ u,o.dst=some u→u<a.tmps.size
theorem dstB_ok {l:List Oper} {sz:Nat} {a:Act} (h:dstB l sz=true) (hs:a.tmps.size=sz):DstOk l a:=fun o ho u hu=>by
 have:=List.all_eq_true.1 h o ho
 rw [hu] at this
 rw [hs]
 exact of_decide_eq_true this
theorem ymh (t:Nat) (x:Value):∀ (l:List Oper) (k:Nat) (vals:Nat→Value) (a:Act) (r:Option Nat),DstOk l a→
  a.tmps.getD t undef=(match r with|some i=>vals i|none=>x)→(yby l k vals (fun _=>true) a).tmps.getD t undef=(match wrt t l k r with|some i=>vals i|none=>x)
 |[],_,_,_,_,_,h=>h
 |o::os,k,vals,a,r,hd,h=>by
  simp only [yby,if_true,wrt]
  have hsz:∀ d v,(a.put d v).tmps.size=a.tmps.size:=fun d v=>by cases d<;>simp [Act.put]
  refine ymh t x os (k+1) vals _ _ (fun o' ho' u hu=>by rw [hsz];exact hd o' (List.mem_cons_of_mem _ ho') u hu) ?_
  cases ho:o.dst with
  |none=>exact h
  |some u=>
   have hu:=hd o (List.mem_cons_self ..) u ho
   simp only [Act.put]
   by_cases hut:u=t
   ·subst hut
    simp [hu,show Nat.beq u u=true from Nat.beq_refl u]
   ·have hb:Nat.beq u t=false:=by cases hb:Nat.beq u t with|true=>exact absurd (Nat.eq_of_beq_eq_true hb) hut|false=>rfl
    simp only [hb,Bool.false_eq_true,if_false]
    rw [← h]
    simp only [zbr]
    rw [Array.getElem?_setIfInBounds_ne hut]
theorem yf4 {l:List Oper} {vals:Nat→Value} {a:Act} (h:DstOk l a) (t:Nat):(full l vals a).tmps.getD t undef=look l vals a t:=ymh t _ l 0 vals a none h rfl
structure Sees (ρ:Operand→Value) (l:List Oper) (vals:Nat→Value) (a:Act):Prop where
 tmp:∀ t,ρ (.tmp t)=look l vals a t
 const:∀ v,ρ (.const v)=v
 global:∀ g,ρ (.global g)=.pointer (some ⟨g,0,none⟩)
 func:∀ f,ρ (.func f)=.func (.func f) #[] #[]
def yim (o:Oper) (j:Nat):Bool:=o.after.toList.any fun e=>Nat.beq e.on j&&Region.binds .any e
theorem Deps.at {V:Nat→Value→World→Prop} {vals:Nat→Value} {w:World} {o:Oper} (h:Deps V vals w o) (j:Nat) (hb:yim o j=true):V j (vals j) w:=by
 obtain ⟨e,he,h2⟩:=List.any_eq_true.1 hb
 rw [zbs] at h2
 have:=Nat.eq_of_beq_eq_true h2.1
 subst this
 exact h e (Array.mem_toList_iff.1 he) h2.2
def ykq (l:List Oper) (n:Nat) (o:Oper):Option (Nat×Bool):=
 match o.guard with
 |none=>none
 |some (g,want)=>match (l[g]?).bind (·.dst) with
  |none=>none
  |some t=>match wrt t (l.take n) 0 none with
   |none=>none
   |some g'=>if (Nat.beq g' g&&yim o g)=true then some (g,want) else none
theorem yf2 {l:List Oper} {n:Nat} {o:Oper} {g:Nat} {want:Bool} (h:ykq l n o=some (g,want)):
  o.guard=some (g,want)∧yim o g=true∧∃ t,(l[g]?).bind (·.dst)=some t∧wrt t (l.take n) 0 none=some g:=by
 unfold ykq at h
 split at h
 ·cases h
 ·rename_i g' want' hg
  split at h
  ·cases h
  ·rename_i t ht
   split at h
   ·cases h
   ·rename_i g'' hw
    split at h
    ·rename_i hb
     cases h
     rw [zbs] at hb
     have:=Nat.eq_of_beq_eq_true hb.1
     subst this
     exact ⟨hg,hb.2,t,ht,hw⟩
    ·cases h
theorem ylu {l:List Oper} {n:Nat} {o:Oper} {g:Nat} {want:Bool} {V:Nat→Value→World→Prop} {a:Act} {vals:Nat→Value} {w:World} (hd:DstOk (l.take n) a) (h:ykq l n o=some (g,want)) (b:Bool)
  (hV:∀ v w,V g v w→v=.bool b) (hD:Deps V vals w o):yielded l.toArray (full (l.take n) vals a).tmps g=some b:=by
 obtain ⟨h1,h2,t,h3,h4⟩:=yf2 h
 have h5:=yf4 (vals:=vals) hd t
 have h6:=hV _ _ (hD.at g h2)
 simp only [look,h4,h6] at h5
 unfold yielded
 have e:(l.toArray[g]?).bind (·.dst)=some t:=by simpa using h3
 rw [e,Option.bind_some]
 simp only [zbr] at h5
 cases hq:(full (l.take n) vals a).tmps[t]? with
 |none=>rw [hq] at h5;cases h5
 |some v=>rw [hq] at h5;simp only [Option.getD_some] at h5;subst h5;rfl
def Wants (l:List Oper) (n:Nat) (V:Nat→Value→World→Prop) (a:Act) (o:Oper):Prop:=DstOk (l.take n) a→∀ vals w,Deps V vals w o→Region.wanted o (yielded l.toArray (full (l.take n) vals a).tmps)=true
def Shuns (l:List Oper) (n:Nat) (V:Nat→Value→World→Prop) (a:Act) (o:Oper):Prop:=DstOk (l.take n) a→∀ vals w,Deps V vals w o→Region.wanted o (yielded l.toArray (full (l.take n) vals a).tmps)=false
theorem Wants.free {l:List Oper} {n:Nat} {V:Nat→Value→World→Prop} {a:Act} {o:Oper} (h:o.guard=none):Wants l n V a o:=fun _ _ _ _=>by simp [Region.wanted,h]
theorem Wants.on {l:List Oper} {n:Nat} {V:Nat→Value→World→Prop} {a:Act} {o:Oper} (g:Nat) (want:Bool) (h:ykq l n o=some (g,want)) (hV:∀ v w,V g v w→v=.bool want):Wants l n V a o:=fun hd vals w hD=>by
 have:=ylu hd h want hV hD
 simp [Region.wanted,(yf2 h).1,this]
theorem Shuns.by {l:List Oper} {n:Nat} {V:Nat→Value→World→Prop} {a:Act} {o:Oper} (g:Nat) (want:Bool) (h:ykq l n o=some (g,want)) (hV:∀ v w,V g v w→v=.bool (!want)):Shuns l n V a o:=fun hd vals w hD=>by
 have:=ylu hd h (!want) hV hD
 cases want<;>simp [Region.wanted,(yf2 h).1,this]
def RhOp (P:Program) (l:List Oper) (n s:Nat) (C:Bool→World→Prop) (R:World→World→Prop) (V:Nat→Value→World→Prop) (a:Act) (i:Nat) (o:Oper):Prop:=DstOk (l.take n) a→RgOp P l n s C R V a i o
def RhOps (P:Program) (l:List Oper) (n s:Nat) (C:Bool→World→Prop) (R:World→World→Prop) (V:Nat→Value→World→Prop) (a:Act) (i:Nat) (os:List Oper):Prop:=DstOk (l.take n) a→RgOps P l n s C R V a i os
section
variable {l:List Oper} {n s:Nat} {C:Bool→World→Prop} {R:World→World→Prop} {V:Nat→Value→World→Prop} {a:Act} {i:Nat} {o:Oper} {os:List Oper}
theorem RhOps.mk (h:RhOp P l n s C R V a i o) (h':RhOps P l n s C R V a (i+1) os):RhOps P l n s C R V a i (o::os):=fun hd=>RgOps.mk (h hd) (h' hd)
theorem RhOps.done:RhOps P l n s C R V a i []:=fun _=>RgOps.done
theorem sees (hd:DstOk (l.take n) a) (vals:Nat→Value):Sees (full (l.take n) vals a).eval (l.take n) vals a:=⟨fun t=>yf4 hd t,fun _=>rfl,fun _=>rfl,fun _=>rfl⟩
theorem RhOp.at (hi:i≠s) (hw:Wants l n V a o)
  (h:∀ (b:Bool) (vals:Nat→Value) (ρ:Operand→Value) (w:World),C b w→Deps V vals w o→Sees ρ (l.take n) vals a→yap P o ρ w (fun v w'=>R w w'∧V i v w')):RhOp P l n s C R V a i o:=fun hd=>
 RgOp.on hi fun b vals w hC hD=>⟨hw hd vals w hD,by unfold yey;exact h b vals _ w hC hD (sees hd vals)⟩
theorem RhOp.off (hi:i≠s) (hw:Shuns l n V a o) (h:∀ b w,C b w→V i undef w):RhOp P l n s C R V a i o:=fun hd=>
 RgOp.off hi fun b vals w hC hD=>⟨hw hd vals w hD,h b w hC⟩
def ymc (op:Op):Option Operand:=match op with|.move x=>some x|.assign x=>some x|_=>none
theorem ygp {x:Operand} (h:ymc o.op=some x) {ρ:Operand→Value} {w:World} {Post:Value→World→Prop} (hp:Post (ρ x) w):yap P o ρ w Post:=by
 rw [ykr]
 unfold execOp
 cases ho:o.op<;>rw [ho] at h<;>simp only [ymc,Option.some.injEq,reduceCtorEq] at h
 all_goals subst h;exact hp
theorem RhOp.move (hi:i≠s) (hw:Wants l n V a o) (t j:Nat) (hR0:∀ b w,C b w→R w w) (hm:ymc o.op=some (.tmp t)) (hj:wrt t (l.take n) 0 none=some j) (hb:yim o j=true) (hV:∀ v w,V j v w→V i v w):RhOp P l n s C R V a i o:=
 RhOp.at hi hw fun b vals ρ w hC hD hS=>ygp hm ⟨hR0 _ _ hC,hV _ _ (by rw [hS.tmp t];unfold look;rw [hj];exact hD.at j hb)⟩
theorem RhOp.moveA (hi:i≠s) (hw:Wants l n V a o) (t:Nat) (hR0:∀ b w,C b w→R w w) (hm:ymc o.op=some (.tmp t)) (hj:wrt t (l.take n) 0 none=none) (x:Value) (hx:a.tmps.getD t undef=x) (hV:∀ b w,C b w→V i x w):RhOp P l n s C R V a i o:=
 RhOp.at hi hw fun b vals ρ w hC hD hS=>ygp hm ⟨hR0 _ _ hC,by rw [hS.tmp t];unfold look;rw [hj];simp only [hx];exact hV _ _ hC⟩
end
theorem yon {id:Nat} {l:List Oper} {a:Act} {w:World} {Q:Exit→Act→World→Prop} (n sz:Nat) (C:World→Prop) (R:World→World→Prop) (V:Nat→Value→World→Prop)
  (hm:P.follows .mixedOrders=true) (hB:rgB l n=true) (hz:dstB (l.take n) sz=true) (hs:a.tmps.size=sz) (hC:C w.drew)
  (hR0:∀ w,C w→R w w) (hCR:∀ w w',C w→R w w'→C w') (hVR:∀ i v w w',i<n→C w→V i v w→R w w'→V i v w')
  (hops:RhOps P l n n (fun _=>C) R V a 0 (l.take n))
  (hend:∀ vals w,C w→(∀ i,i<n→V i (vals i) w)→wpList P l.toArray Q (l.drop n) (full (l.take n) vals a) w):(Code.region id l.toArray true).wp P Q a w:=
 yoo n C R V hm hB hC hR0 hCR hVR (hops (dstB_ok hz hs)) hend
theorem ycl {id:Nat} {l:List Oper} {a:Act} {w:World} {Q:Exit→Act→World→Prop} (n sz:Nat) (vs:List (Value→World→Prop))
  (hm:P.follows .mixedOrders=true) (hB:rgB l n=true) (hz:dstB (l.take n) sz=true) (hs:a.tmps.size=sz) (hst:StL Ext vs)
  (hops:RhOps P l n n (fun _ w'=>Ext w w') Ext (vlist vs) a 0 (l.take n))
  (hend:∀ vals w',Ext w w'→(∀ i,i<n→vlist vs i (vals i) w')→wpList P l.toArray Q (l.drop n) (full (l.take n) vals a) w'):(Code.region id l.toArray true).wp P Q a w:=
 yon n sz (fun w'=>Ext w w') Ext (vlist vs) hm hB hz hs (Ext.refl _).drew (fun w' _=>Ext.refl w') (fun _ _ h hx=>h.trans hx) (fun i v w1 w2 _ _ hV hx=>StL.vlist (R:=Ext) hst i v w1 w2 hV hx) hops hend
section
variable {l:List Oper} {n s:Nat} {C:Bool→World→Prop} {R:World→World→Prop} {V:Nat→Value→World→Prop} {a:Act} {i:Nat} {o:Oper} {os:List Oper}
theorem ybd {Q Q':Value→World→Prop} (h:∀ v w,Q v w→Q' v w) {r:Result Next} (hr:yai P Q r):yai P Q' r:=by
 cases r with
 |ok x w'=>cases x with
  |value v=>exact h _ _ hr
  |skip=>exact h _ _ hr
  |enter f args=>exact Calls.mono hr fun e w'' ⟨v,h1,h2⟩=>⟨v,h1,h _ _ h2⟩
  |_=>exact hr.elim
 |_=>exact hr.elim
end
attribute [irreducible] RhOps RhOp yap
end
section
variable {P:Program}
def yry (i:Nat):List Nat→Nat→Option Nat
 |[],_=>none
 |s::sp,k=>if Nat.beq s i=true then some k else yry i sp (k+1)
def stage:List Nat→Array Bool→Nat
 |[],_=>0
 |s::sp,L=>(if L.getD s false=true then 1 else 0)+stage sp L
def RsOp (P:Program) (l:List Oper) (n:Nat) (sp:List Nat) (C:Nat→World→Prop) (R:World→World→Prop) (V:Nat→Nat→Value→World→Prop) (a:Act) (i:Nat) (o:Oper):Prop:=
 (yry i sp 0=none→∀ (b:Nat) (vals:Nat→Value) (w:World),(∀ (m s:Nat) (os:Oper),sp[m]? =some s→l[s]? =some os→yim os i=true→b≤m)→C b w→Deps (V b) vals w o→
  if Region.wanted o (yielded l.toArray (full (l.take n) vals a).tmps)=true then yey P o (full (l.take n) vals a) w (fun v w'=>R w w'∧V b i v w') else V b i undef w)∧
 ∀ k,yry i sp 0=some k→∀ (vals:Nat→Value) (w:World),C k w→Deps (V k) vals w o→Region.wanted o (yielded l.toArray (full (l.take n) vals a).tmps)=true∧
   yey P o (full (l.take n) vals a) w (fun v w'=>C (k+1) w'∧V (k+1) i v w'∧∀ j,j<n→j≠i→∀ u,V k j u w→V (k+1) j u w')
def RsOps (P:Program) (l:List Oper) (n:Nat) (sp:List Nat) (C:Nat→World→Prop) (R:World→World→Prop) (V:Nat→Nat→Value→World→Prop) (a:Act):Nat→List Oper→Prop
 |_,[]=>True
 |i,o::os=>(DstOk (l.take n) a→RsOp P l n sp C R V a i o)∧RsOps P l n sp C R V a (i+1) os
theorem RsOps.get {l:List Oper} {n:Nat} {sp:List Nat} {C:Nat→World→Prop} {R:World→World→Prop} {V:Nat→Nat→Value→World→Prop} {a:Act} (hd:DstOk (l.take n) a):
  ∀ (os:List Oper) (k:Nat),RsOps P l n sp C R V a k os→∀ j o,os[j]? =some o→RsOp P l n sp C R V a (k+j) o
 |x::os,k,h,0,o,ho=>by simp at ho;subst ho;exact h.1 hd
 |x::os,k,h,j+1,o,ho=>by
  have:=RsOps.get hd os (k+1) h.2 j o (by simpa using ho)
  rwa [show k+1+j=k+(j+1) by omega] at this
 |[],_,_,j,o,ho=>by simp at ho
section
variable {l:List Oper} {n:Nat} {sp:List Nat} {C:Nat→World→Prop} {R:World→World→Prop} {V:Nat→Nat→Value→World→Prop} {a:Act} {i:Nat} {o:Oper} {os:List Oper}
theorem RsOps.mk (h:DstOk (l.take n) a→RsOp P l n sp C R V a i o) (h':RsOps P l n sp C R V a (i+1) os):RsOps P l n sp C R V a i (o::os):=⟨h,h'⟩
theorem RsOps.done:RsOps P l n sp C R V a i []:=trivial
theorem RsOp.at (hi:yry i sp 0=none) (hw:∀ b,Wants l n (V b) a o)
  (h:∀ (b:Nat) (vals:Nat→Value) (ρ:Operand→Value) (w:World),C b w→Deps (V b) vals w o→Sees ρ (l.take n) vals a→yap P o ρ w (fun v w'=>R w w'∧V b i v w')):DstOk (l.take n) a→RsOp P l n sp C R V a i o:=fun hd=>
 ⟨fun _ b vals w _ hC hD=>by rw [if_pos (hw b hd vals w hD),gives_eq];have:=h b vals _ w hC hD (sees hd vals);rwa [ykr] at this,fun k hk=>by rw [hi] at hk;cases hk⟩
theorem RsOp.off (hi:yry i sp 0=none) (hw:∀ b,Shuns l n (V b) a o) (h:∀ b w,C b w→V b i undef w):DstOk (l.take n) a→RsOp P l n sp C R V a i o:=fun hd=>
 ⟨fun _ b vals w _ hC hD=>by rw [if_neg (by rw [hw b hd vals w hD];decide)];exact h b w hC,fun k hk=>by rw [hi] at hk;cases hk⟩
theorem RsOp.move (hi:yry i sp 0=none) (hw:∀ b,Wants l n (V b) a o) (t j:Nat) (hR0:∀ b w,C b w→R w w) (hm:ymc o.op=some (.tmp t)) (hj:wrt t (l.take n) 0 none=some j) (hb:yim o j=true) (hV:∀ b v w,V b j v w→V b i v w):DstOk (l.take n) a→RsOp P l n sp C R V a i o:=
 RsOp.at hi hw fun b vals ρ w hC hD hS=>ygp hm ⟨hR0 _ _ hC,hV _ _ _ (by rw [hS.tmp t];unfold look;rw [hj];exact hD.at j hb)⟩
theorem RsOp.moveA (hi:yry i sp 0=none) (hw:∀ b,Wants l n (V b) a o) (t:Nat) (hR0:∀ b w,C b w→R w w) (hm:ymc o.op=some (.tmp t)) (hj:wrt t (l.take n) 0 none=none) (x:Value) (hx:a.tmps.getD t undef=x) (hV:∀ b w,C b w→V b i x w):DstOk (l.take n) a→RsOp P l n sp C R V a i o:=
 RsOp.at hi hw fun b vals ρ w hC hD hS=>ygp hm ⟨hR0 _ _ hC,by rw [hS.tmp t];unfold look;rw [hj];simp only [hx];exact hV _ _ hC⟩
end
def StK (R:World→World→Prop):List (Nat→Value→World→Prop)→Prop
 |[]=>True
 |f::fs=>(∀ k v w w',f k v w→R w w'→f k v w')∧StK R fs
def NxK (k:Nat) (w w':World):List (Nat→Value→World→Prop)→Prop
 |[]=>True
 |f::fs=>(∀ v,f k v w→f (k+1) v w')∧NxK k w w' fs
theorem StK.get {R:World→World→Prop}:∀ {vs:List (Nat→Value→World→Prop)},StK R vs→∀ (j k:Nat) (v:Value) (w w':World),vs.getD j (fun _ _ _=>True) k v w→R w w'→vs.getD j (fun _ _ _=>True) k v w'
 |[],_,_,_,_,_,_,_,_=>by simp
 |f::fs,hs,0,k,v,w,w',h,hR=>hs.1 k v w w' h hR
 |f::fs,hs,j+1,k,v,w,w',h,hR=>by
  have:=StK.get hs.2 j k v w w' (by simpa using h) hR
  simpa using this
theorem NxK.get {k:Nat} {w w':World}:∀ {vs:List (Nat→Value→World→Prop)},NxK k w w' vs→∀ (j:Nat) (v:Value),vs.getD j (fun _ _ _=>True) k v w→vs.getD j (fun _ _ _=>True) (k+1) v w'
 |[],_,_,_,_=>by simp
 |f::fs,hs,0,v,h=>hs.1 v h
 |f::fs,hs,j+1,v,h=>by
  have:=NxK.get hs.2 j v (by simpa using h)
  simpa using this
theorem yig {o:Oper} {ρ:Operand→Value} {w:World} {Post:Value→World→Prop} {x:Operand} {args:Array Operand} {ts:Array TypeId} {f:FuncId} (ho:o.op=.call { callee:=.value x,args:=args,argTypes:=ts }) (hx:ρ x=.func (.func f) #[] #[]) (hf:(callFunc f (args.map ρ)).run P w=.ok (.enter f (args.map ρ)) w)
  (h:Calls P f (args.map ρ) w fun e w'=>∃ v,e=.returned v∧Post v w'):yap P o ρ w Post:=by
 rw [ykr]
 unfold execOp
 simp only [ho,resolve,hx]
 simpa [go_sem,hf] using h
attribute [irreducible] RsOps RsOp
end
theorem yac {w:World} {k:Nat} {c:Array Value} {t:TypeId} {fr:Nat×Nat} (h:w.heap[k]? =some (.cells c t fr)) (j:Nat):w.cell? ⟨k,j,none⟩=c[j]? :=by
 simp [World.cell?,h]
theorem yay {w:World} {k:Nat} {c:Array Value} {t:TypeId} (h:w.heap[k]? =some (.cells c t (0,0))) (j:Nat):w.frozen? ⟨k,j,none⟩=false:=by
 simp [World.frozen?,h]
theorem ybl {w:World} {k j:Nat} {c:Array Value} {v:Value} {t:TypeId} {fr:Nat×Nat} (h:w.heap[k]? =some (.cells c t fr)):(w.setCell ⟨k,j,none⟩ v).heap[k]? =some (.cells (c.setIfInBounds j v) t fr):=by
 simp [World.setCell,Array.getElem?_modify,h]
theorem ys0 (w:World) (o:Obj):(w.alloc o).heap[w.heap.size]? =some o:=heap_alloc_new w _
theorem blk_old {w:World} {o u:Obj} {n:Nat} (h:w.heap[n]? =some u):(w.alloc o).heap[n]? =some u:=
 (((Ext.refl w).alloc o).block n (zbp.1 h).1 id).trans h
theorem ycv (b:Nat):∀ (vs:List Value) (o:Nat) (w:World),Mod (fun k=>k=b) w (w.setCells b o vs)
 |[],_,w=>Mod.refl _ w
 |v::r,o,w=>Mod.trans (F:=fun k=>k=b) (Mod.setCell (F:=fun k=>k=b) (Mod.refl _ w) (p:=⟨b,o,none⟩) (fun _=>rfl) v) (ycv b r (o+1) _) (fun _ h _=>h)
theorem yo6 {w:World} {b:Nat} {c:Array Value} {t:TypeId} {fr:Nat×Nat} (h:w.heap[b]? =some (.cells c t fr)):w.rangeAt b 0 c.toList:=fun j v hv=>by
 rw [zbo,yac h];simpa using hv
theorem you {w:World} {b:Nat} {c:Array Value} {t:TypeId} (h:w.heap[b]? =some (.cells c t (0,0))):w.there b 0 c.size:=fun j hj=>
 ⟨by rw [zbo,yac h];simp [hj],yay h _⟩
theorem yo3 {P:Program} {fn:Func} {tmps:Array Value} {w:World} {k:Nat} {ty:TypeId} {a:Addr} {v:Value} (hr:fn.results=#[.cell k ty]) (ht:tmps.getD k undef=.pointer (some a))
  (hl:(loadVar ty a).run P w=.ok v w):(results fn tmps).run P w=.ok v w:=by
 have ha:(asAddr (.pointer (some a))).run P w=.ok a w:=by simp [go_sem]
 unfold results
 rw [hr]
 rw [zbr] at ht
 simp [ht,Sem.run_bind,ha,hl]
set_option maxHeartbeats 1000000 in
theorem clone_c (v:Value) (l:List UInt8) (w:World) (h:Bs w v l) (hl:l.length≤140737488355328):
  Calls Try.prog 202 #[v] w fun e w'=>∃ ao cap,e=.returned (.slice ao l.length cap)∧Ext w w'∧w'.ownsRow w.heap.size 5 1 (.slice ao l.length cap) l.length (l.map bv):=by
 have h0:=h
 obtain ⟨ao,cap,rfl,ca1,ca2,ca3,hca⟩:=h0.open
 clear h0 hca
 have H:=Lib.hid h;clear h
 cases ao with
 |none=>
  have hc:=ca3 rfl
  subst hc
  have hn:l=[]:=zaw (by omega)
  subst hn
  clear ca1 ca2 ca3
  have hnil:∀ w,(binOp .eql 37 (.slice none 0 0) (.slice none 0 0)).run Try.prog w=.ok (.bool true) w:=fun w=>Lib.run_eql_slice_nil w 37 5 none 0 0 0 0 Try.underlying37
  go_enter Try.func202,Try.ntmps202
  go_wp2
  go_ret
  exact ⟨none,0,rfl,Ext.refl w,World.ownsRow_nil _ _ _ _⟩
 |some a=>
  clear ca3
  obtain ⟨n,hn⟩:∃ n,n=l.length:=⟨_,rfl⟩
  rw [← hn] at H ca1 ⊢
  have HN:=Lib.hid hn
  clear hn
  have hnil:∀ w,(binOp .eql 37 (.slice (some a) n cap) (.slice none 0 0)).run Try.prog w=.ok (.bool false) w:=fun w=>Lib.run_eql_slice_nil w 37 5 (some a) n cap 0 0 Try.underlying37
  go_enter Try.func202,Try.ntmps202
  go_wp2_with (first|(at_builtin;go_loud (refine yek rfl (.tmp 5) (.tmp 6) 37 rfl ydp w.heap.size rfl (yds (n:=0) (size:=1) (cs:=#[]) rfl (zbm _) (by decide)) rfl (by have:=H.out.ext ((Ext.refl w).alloc (.cells #[] 5));unfold Bs at this;rw [← HN.out] at this;exact this) (yb3 _) (by have:=HN.out;omega) (by have:=HN.out;omega) (by simp) ?_);intro v' w1 hown hgr _)|fail)
  rw [zbo] at hown
  obtain ⟨ao,cap',rfl⟩:=yer hown
  go_ret
  exact ⟨ao,cap',rfl,((Ext.refl w).alloc _).grown hgr (fun k hk=>by cases hk;exact zbm _),by simpa using hown⟩
theorem yl7 (n:Nat) (hn:n≤140737488355328) (w:World):
  ∃ w',(Instr.makeSlice 37 (.int .i64 (n:Int)) (.int .i64 (n:Int))).run Try.prog w=.ok (.slice (some ⟨w.heap.size,0,none⟩) n n) w'∧
   w'.ownsRow w.heap.size 5 1 (.slice (some ⟨w.heap.size,0,none⟩) n n) n ((zbg n (0:UInt8)).map bv)∧Ext w w':=by
 have hi:(Try.prog.info? 5).map (fun i=>(i.zero,i.size,i.bytes))=some (some (.int .u8 0),1,1):=by kernel_rfl
 obtain ⟨i,h1,h2,h3,h4⟩:=info_parts hi
 obtain ⟨w',hr,ho,hg⟩:=run_make_full (P:=Try.prog) w w.heap.size 37 5 i (.int .u8 0) 1 Try.underlying37 h1 h2 h3 .i64 .i64 n (by rw [h4];omega) (by unfold maxLen;omega) (zbm _)
 refine ⟨w',hr,?_,(Ext.refl w).grown hg fun k hk=>by cases hk⟩
 have e:(madeCells (Value.int .u8 0).cells (n * 1)).toList=(zbg n (0:UInt8)).map bv:=by
  rw [Nat.mul_one,show (Value.int .u8 0).cells=#[.int .u8 0] from rfl,toList_madeCells_one,List.map_replicate];rfl
 rwa [e] at ho
theorem yn9 {v:Value} {l:List UInt8} {w:World} (h:Bs w v l):(convert 37 9 v).run Try.prog w=.ok (.string ⟨l.toArray⟩) w:=by
 obtain ⟨ao,cap,rfl,h1,h2,h3,h4⟩:=h.open
 cases ao with
 |none=>
  have hc:=h3 rfl
  subst hc
  have:l=[]:=zaw (by omega)
  subst this
  show (convert 37 9 (.slice none 0 0)).run Try.prog w=_
  rw [run_convert_bytes_string w 37 9 5 none 0 0 Try.underlying37 Try.underlying5 Try.underlying9]
  rfl
 |some a=>
  refine run_convert_bytes_back w 37 9 5 a cap l Try.underlying37 Try.underlying5 Try.underlying9 fun j hj=>?_
  rw [h4 a rfl j hj]
  simp [List.getD,zaa hj]
end Go.Proofs.Ytiiekgcjilelpaa
