/- HZ. -/
import Derived.Test.YtiiekgcjilelpaaHYp
import Derived.Test.YtiiekgcjilelpaaH7p
set_option linter.unusedSimpArgs false
set_option linter.unusedVariables false
namespace Go.Proofs.Ytiiekgcjilelpaa
open Go.RowKit
section
variable {W0:World} {G:Nat→Prop} {w w':World} {e:Env} {mem:Mem Td}
theorem flat_take {α:Type} {sz:Nat}:∀ {R:List (List α)},(∀ r∈R,r.length=sz)→∀ a,R.flatten.take (a * sz)=(R.take a).flatten
 |[],_,a=>by simp
 |r::R,h,0=>by simp
 |r::R,h,a+1=>by
  have h1:=h r (List.mem_cons_self ..)
  rw [List.flatten_cons,List.take_succ_cons,List.flatten_cons,show (a+1) * sz=r.length+a * sz by rw [h1,Nat.add_mul];omega,List.take_append,List.take_of_length_le (Nat.le_add_right _ _),Nat.add_sub_cancel_left,flat_take (fun r' hr=>h r' (List.mem_cons_of_mem _ hr)) a]
theorem flat_drop {α:Type} {sz:Nat}:∀ {R:List (List α)},(∀ r∈R,r.length=sz)→∀ a,R.flatten.drop (a * sz)=(R.drop a).flatten
 |[],_,a=>by simp
 |r::R,h,0=>by simp
 |r::R,h,a+1=>by
  have h1:=h r (List.mem_cons_self ..)
  rw [List.flatten_cons,List.drop_succ_cons,show (a+1) * sz=r.length+a * sz by rw [h1,Nat.add_mul];omega,List.drop_append,List.drop_of_length_le (Nat.le_add_right _ _),List.nil_append,Nat.add_sub_cancel_left,flat_drop (fun r' hr=>h r' (List.mem_cons_of_mem _ hr)) a]
def tabRow (R:List (List Value×List UInt8)) (vals:List Value):List (List Value):=List.zipWith (fun r v=>r.1++[v]) R vals
theorem tabRow_flat (R:List (List Value×List UInt8)) (vals:List Value):tabCells R vals=(tabRow R vals).flatten:=rfl
theorem tabRow_len {k:Nat} {R:List (List Value×List UInt8)} {vals:List Value} (h:∀ r∈R,r.1.length=k):∀ r∈tabRow R vals,r.length=k+1:=fun r hr=>by
 unfold tabRow at hr
 rw [List.zipWith_eq_zipWith_take_min] at hr
 obtain ⟨j,hj,rfl⟩:=List.getElem_of_mem hr
 simp only [List.getElem_zipWith,List.length_append,List.length_cons,List.length_nil]
 rw [h _ (List.mem_of_mem_take (List.getElem_mem _))]
theorem tabRow_num {R:List (List Value×List UInt8)} {vals:List Value} (h:vals.length=R.length):(tabRow R vals).length=R.length:=by
 unfold tabRow;rw [List.length_zipWith,h,Nat.min_self]
theorem tabRow_set:∀ (R:List (List Value×List UInt8)) (vals:List Value) (n:Nat) (r:List Value×List UInt8) (v:Value),tabRow (R.set n r) (vals.set n v)=(tabRow R vals).set n (r.1++[v])
 |[],_,_,_,_=>by simp [tabRow]
 |_::_,[],_,_,_=>by simp [tabRow]
 |x::R,y::vals,0,r,v=>by simp [tabRow]
 |x::R,y::vals,n+1,r,v=>by
  have:=tabRow_set R vals n r v
  simp only [tabRow] at this
  simp [tabRow,this]
theorem tabCells_app0 {R X:List (List Value×List UInt8)} {vs xs:List Value} (h:vs.length=R.length):tabCells (R++X) (vs++xs)=tabCells R vs++tabCells X xs:=by
 unfold tabCells
 rw [List.zipWith_append h.symm,List.flatten_append]
theorem rs_cut {sz:Nat} {RR:List (List Value)} (hall:∀ r∈RR,r.length=sz) {ao:Option Addr} {cap:Nat} (hR:Rs w sz (.slice ao RR.length cap) RR.length RR.flatten) {lo hi:Nat} (h1:lo≤hi) (h2:hi≤RR.length):
  Rs w sz (.slice (if cap=lo then ao else ao.map (·.add (lo * sz))) (hi - lo) (cap - lo)) (hi - lo) ((RR.drop lo).take (hi - lo)).flatten:=by
 obtain ⟨hl,ao',cap',he,r1,r2,r3,r4⟩:=hR
 have hR':Rs w sz (.slice ao RR.length cap) RR.length RR.flatten:=⟨hl,ao',cap',he,r1,r2,r3,r4⟩
 cases he
 have hcut:=Rs.cut hR' (k:=lo) (m:=hi) h1 h2 (ao':=if cap=lo then ao else ao.map (·.add (lo * sz))) (cap':=cap - lo) (by omega) (by omega) (fun hn=>by
  split at hn
  ·omega
  ·cases ao with
   |none=>have:=r3 rfl;omega
   |some a=>cases hn) (fun a' ha' hlt=>by
  split at ha'
  ·omega
  ·cases ao with
   |none=>cases ha'
   |some a=>simp at ha';exact ⟨a,rfl,ha'.symm⟩)
 rw [flat_drop hall,flat_take (fun r hr=>hall r (List.mem_of_mem_drop hr))] at hcut
 exact hcut
def Src (w:World) (e:Env) (mem:Mem Td) (u0:Value) (F:Nat→Prop) (r:List Value×List UInt8) (v:Value):Prop:=
 Bs w v r.2∧∀ kk,r.2≠[]→v.ownBlock=some kk→(F kk∨Sh Id' w e mem kk)∧u0.ownBlock≠some kk∧kk<w.heap.size
structure TabLie (w:World) (x:TB) (u:Value) (B:Nat) (vals:List Value):Prop where
 len:vals.length=x.R.length
 base:B≤w.heap.size
 own:w.ownsRow B x.t (x.k+1) u x.R.length (tabCells x.R vals)
 byt:∀ (i:Nat) (v:Value) (r:List Value×List UInt8),vals[i]? =some v→x.R[i]? =some r→Bs w v r.2∧∀ kk,r.2≠[]→v.ownBlock=some kk→u.ownBlock≠some kk
theorem tab_lie {x:TB} {u:Value} (h:dkHolds (.tab x) w u):∃ B vals,TabLie w x u B vals:=by
 obtain ⟨_,_,vals,hl,⟨B,hB,ho⟩,hr⟩:=h
 exact ⟨B,vals,hl,hB,ho,hr⟩
theorem TabLie.ones {x:TB} {u:Value} {B:Nat} {vals:List Value} (h:TabLie w x u B vals) {i:Nat} {v:Value} (hv:vals[i]? =some v):v.oneCell'=true:=by
 have hi:i<x.R.length:=by rw [← h.len];exact (List.getElem?_eq_some_iff.1 hv).1
 obtain ⟨⟨_,ao,cap,hv',_⟩,_⟩:=h.byt i v _ hv (List.getElem?_eq_getElem hi)
 rw [hv'];rfl
theorem src_own (hM:MemOk W0 G Id' w e mem) {i:Nat} {u0:Value} {x:TB} {mu:Bool} (hu0:e[i]? =some u0) (hm0:mem[i]? =some ⟨.us (.ext (.tab x)),mu⟩) {B:Nat} {vals:List Value} (hL:TabLie w x u0 B vals) {n:Nat} {v:Value} {r:List Value×List UInt8} (hv:vals[n]? =some v) (hr:x.R[n]? =some r):
  Src w e mem u0 (Foot Id' w u0 (.us (.ext (.tab x)))) r v:=by
 obtain ⟨g1,g2⟩:=hL.byt n v r hv hr
 refine ⟨g1,fun kk h1 h2=>?_⟩
 have hft:Foot Id' w u0 (.us (.ext (.tab x))) kk:=.inr ⟨n,r,v,hr,h1,tab_at hL.len x.wid hL.own hv,h2⟩
 exact ⟨.inl hft,g2 kk h1 h2,hM.lt i u0 _ hu0 hm0 kk hft⟩
theorem src_oth (hM:MemOk W0 G Id' w e mem) {j:Nat} {u1:Value} {y:TB} {mu:Bool} (hu1:e[j]? =some u1) (hm1:mem[j]? =some ⟨.us (.ext (.tab y)),mu⟩) {B:Nat} {vals:List Value} (hL:TabLie w y u1 B vals) {n:Nat} {v:Value} {r:List Value×List UInt8} (hv:vals[n]? =some v) (hr:y.R[n]? =some r)
  {u0:Value} {F:Nat→Prop} (hno:∀ kk,Sh Id' w e mem kk→u0.ownBlock≠some kk):Src w e mem u0 F r v:=by
 obtain ⟨g1,g2⟩:=hL.byt n v r hv hr
 refine ⟨g1,fun kk h1 h2=>?_⟩
 have hsh:Sh Id' w e mem kk:=⟨j,u1,_,hu1,hm1,.inr ⟨n,r,v,hr,h1,tab_at hL.len y.wid hL.own hv,h2⟩,fun _ hk=>g2 kk h1 h2 hk⟩
 exact ⟨.inr hsh,hno kk hsh,hsh.lt hM⟩
theorem src_byt (hM:MemOk W0 G Id' w e mem) {j:Nat} {v:Value} {l:List UInt8} (hu1:e[j]? =some v) (hm1:mem[j]? =some ⟨.us (.byt l),false⟩) {u0:Value} {F:Nat→Prop} (hno:∀ kk,Sh Id' w e mem kk→u0.ownBlock≠some kk) (a:List Value):Src w e mem u0 F (a,l) v:=by
 refine ⟨hM.holds j _ _ hu1 hm1,fun kk h1 h2=>?_⟩
 have hsh:Sh Id' w e mem kk:=⟨j,v,_,hu1,hm1,⟨h1,h2⟩,fun h=>by cases h⟩
 exact ⟨.inr hsh,hno kk hsh,hsh.lt hM⟩
theorem src_nil (u0:Value) (F:Nat→Prop) (a:List Value):Src w e mem u0 F (a,[]) (.slice none 0 0):=⟨Bs.nil w,fun kk h1 _=>absurd rfl h1⟩
section
variable {tb:TB} {B:Nat} {vals:List Value} {u0 v':Value} {F:Nat→Prop}
theorem tab_holds (hmd:Mod (fun kk=>u0.ownBlock=some kk) w w') (hB:B≤w'.heap.size) (q1:w'.ownsRow B tb.t (tb.k+1) v' tb.R.length (tabCells tb.R vals)) (hl:vals.length=tb.R.length) (q3:v'.ownBlock=u0.ownBlock∨v'.ownBlock=some w.heap.size)
  (inn:∀ (n:Nat) (v:Value) (r:List Value×List UInt8),vals[n]? =some v→tb.R[n]? =some r→Src w e mem u0 F r v):tabHolds tb.t tb.k tb.R w' v':=by
 refine ⟨tb.wid,tb.ones,vals,hl,⟨B,hB,q1⟩,fun n v r hv hri=>⟨?_,fun kk h1 h2 h3=>?_⟩⟩
 ·obtain ⟨g1,g2⟩:=inn n v r hv hri
  by_cases hn:r.2=[]
  ·rw [hn] at g1 ⊢;exact bs_empty g1
  ·exact g1.mod hmd fun kk hk _ hh=>(g2 kk hn hk).2.1 hh
 ·obtain ⟨g1,g2⟩:=inn n v r hv hri
  obtain ⟨_,g3,g4⟩:=g2 kk h1 h2
  rcases q3 with h|h
  ·rw [h] at h3;exact g3 h3
  ·rw [h] at h3;cases h3;omega
theorem tab_foot (hsz:w.heap.size≤w'.heap.size) (q1:w'.ownsRow B tb.t (tb.k+1) v' tb.R.length (tabCells tb.R vals)) (hl:vals.length=tb.R.length) (q3:v'.ownBlock=u0.ownBlock∨v'.ownBlock=some w.heap.size) (hF:∀ kk,u0.ownBlock=some kk→F kk)
  (inn:∀ (n:Nat) (v:Value) (r:List Value×List UInt8),vals[n]? =some v→tb.R[n]? =some r→Src w e mem u0 F r v) (kk:Nat) (hk:tabFoot tb.k tb.R w' v' kk):(F kk∨w.heap.size≤kk∨Sh Id' w e mem kk)∧kk<w'.heap.size:=by
 rcases hk with hk|⟨n,r,v,g1,g2,g3,g4⟩
 ·refine ⟨?_,(owns_block q1 hk).2⟩
  rcases q3 with h|h
  ·exact .inl (hF kk (h▸hk))
  ·rw [h] at hk;cases hk;exact .inr (.inl (Nat.le_refl _))
 ·have hn:n<vals.length:=by rw [hl];exact (List.getElem?_eq_some_iff.1 g1).1
  have hv:=List.getElem?_eq_getElem hn
  have:=tabAt_eq g3 (tab_at hl tb.wid q1 hv)
  subst this
  obtain ⟨c1,_,c3⟩:=(inn n _ r hv g1).2 kk g2 g4
  exact ⟨c1.elim .inl fun h=>.inr (.inr h),Nat.lt_of_lt_of_le c3 hsz⟩
theorem tab_upd (hM:MemOk W0 G Id' w e mem) {i:Nat} {x:TB} (hu0:e[i]? =some u0) (hm0:mem[i]? =some ⟨.us (.ext (.tab x)),true⟩) (hmd:Mod (fun kk=>u0.ownBlock=some kk) w w') (hB:B≤w'.heap.size) (q1:w'.ownsRow B tb.t (tb.k+1) u0 tb.R.length (tabCells tb.R vals)) (hl:vals.length=tb.R.length)
  (inn:∀ (n:Nat) (v:Value) (r:List Value×List UInt8),vals[n]? =some v→tb.R[n]? =some r→Src w e mem u0 (Foot Id' w u0 (.us (.ext (.tab x)))) r v):MemOk W0 G Id' w' e (mem.set i ⟨.us (.ext (.tab tb)),true⟩):=
 hM.upd3 hu0 hm0 hmd ⟨.us (.ext (.tab tb)),true⟩ (tab_holds hmd hB q1 hl (.inl rfl) inn) (fun kk hk=>tab_foot hmd.size q1 hl (.inl rfl) (fun kk h=>.inl h) inn kk hk) fun kk hk=>.inl hk
theorem tab_renew (hM:MemOk W0 G Id' w e mem) {i:Nat} {x:TB} (hu0:e[i]? =some u0) (hm0:mem[i]? =some ⟨.us (.ext (.tab x)),true⟩) (hmd:Mod (fun kk=>u0.ownBlock=some kk) w w') (hB:B≤w'.heap.size) (q1:w'.ownsRow B tb.t (tb.k+1) v' tb.R.length (tabCells tb.R vals)) (hl:vals.length=tb.R.length)
  (q3:v'.ownBlock=u0.ownBlock∨v'.ownBlock=some w.heap.size) (inn:∀ (n:Nat) (v:Value) (r:List Value×List UInt8),vals[n]? =some v→tb.R[n]? =some r→Src w e mem u0 (Foot Id' w u0 (.us (.ext (.tab x)))) r v):
  MemOk W0 G Id' w' (e++[v']) (mem.set i ⟨.dead,true⟩++[⟨.us (.ext (.tab tb)),true⟩]):=
 hM.renew3 hu0 hm0 hmd ⟨.us (.ext (.tab tb)),true⟩ (tab_holds hmd hB q1 hl q3 inn) (fun kk hk=>tab_foot hmd.size q1 hl q3 (fun kk h=>.inl h) inn kk hk) fun kk hk=>by
  have hk':v'.ownBlock=some kk:=hk
  rcases q3 with h|h
  ·exact .inl (show u0.ownBlock=some kk from h▸hk')
  ·rw [h] at hk';cases hk';exact .inr (Nat.le_refl _)
theorem tab_push (hM:MemOk W0 G Id' w e mem) (hx:Ext w w') (hB:B≤w'.heap.size) (q1:w'.ownsRow B tb.t (tb.k+1) v' tb.R.length (tabCells tb.R vals)) (hl:vals.length=tb.R.length)
  (q3:v'.ownBlock=(Value.slice none 0 0).ownBlock∨v'.ownBlock=some w.heap.size) (inn:∀ (n:Nat) (v:Value) (r:List Value×List UInt8),vals[n]? =some v→tb.R[n]? =some r→Src w e mem (.slice none 0 0) (fun _=>False) r v):
  MemOk W0 G Id' w' (e++[v']) (mem++[⟨.us (.ext (.tab tb)),true⟩]):=
 hM.push3 hx v' ⟨.us (.ext (.tab tb)),true⟩ (tab_holds (u0:=.slice none 0 0) (hx.mono fun k _ hk=>hk.elim) hB q1 hl q3 inn) (fun kk hk=>by
  obtain ⟨g1,g2⟩:=tab_foot hx.size q1 hl q3 (F:=fun _=>False) (fun kk h=>by cases h) inn kk hk
  exact ⟨g1.resolve_left fun h=>h,g2⟩) fun kk hk=>by
  have hk':v'.ownBlock=some kk:=hk
  rcases q3 with h|h
  ·rw [h] at hk';cases hk'
  ·rw [h] at hk';cases hk';exact Nat.le_refl _
end
theorem wholeT_info {t n:Nat} (h:wholeT t=some n):(Try.prog.info? t).map (·.size)=some n:=by
 have:=wholeIn_mem h
 simp only [wholeL,List.cons_append,List.nil_append,List.mem_cons,Prod.mk.injEq,List.not_mem_nil,or_false] at this
 rcases this with ⟨rfl,rfl⟩
  |⟨rfl,rfl⟩
  |⟨rfl,rfl⟩
  |⟨rfl,rfl⟩
  |⟨rfl,rfl⟩
 all_goals first|exact (by clear h;exact (show Option.map (fun x:TypeInfo=>x.size) _=some _ by kernel_rfl))|decide +kernel
def opSetT (t:TypeId) (us:List CV) (mem:Mem Td):OpD:=match us,wholeT t with
 |[.one (.elt i sz idx off),.agg [p,.obj j]],some m=>(match mem[i]?,mem[j]?,valP p with
  |some ⟨.us (.ext (.tab (.wq t' Q))),true⟩,some ⟨.us (.byt l),false⟩,some (.int .i64 a)=>(match eqb sz 2&&(eqb off 0&&eqb m 2) with
   |true=>some ([],svV undef,some (mem.set i ⟨.us (.ext (.tab (.wq t' (Q.set idx.toNat (a,l))))),true⟩))
   |false=>none)
  |_,_,_=>none)
 |_,_=>none
theorem opSetT_ost {t:TypeId} {p:PV} {v:CV} {mem m':Mem Td} {ps:List Prop} {r:SV} (h:opSetT t [.one p,v] mem=some (ps,r,some m')):∃ i,placeP p=some i∧∀ j en,mem[j]? =some en→j≠i→m'[j]? =some en:=by
 unfold opSetT at h
 split at h
 ·rename_i i sz idx off q j m he hn
  cases he
  split at h
  ·split at h
   ·simp only [Option.some.injEq,Prod.mk.injEq] at h
    obtain ⟨_,_,rfl⟩:=h
    exact ⟨i,rfl,fun j en hj hne=>by rw [List.getElem?_set_ne (Ne.symm hne)];exact hj⟩
   ·cases h
  ·cases h
 ·cases h
theorem opSetT_ok {t:TypeId} {us:List CV} {ps:List Prop} {r:SV} {mo:Option (Mem Td)} (h:opSetT t us mem=some (ps,r,mo)) {o:Oper} {ρ:Operand→Value} {x y:Operand} (ho:o.op=.store t x y) (hM:MemOk W0 G Id' w e mem) (ha:AllC e us [ρ x,ρ y]):
  givesUpon Try.prog (fun v w'=>OutIs Id' W0 G w e r v w' mo) ((execOp ρ o).run Try.prog w):=by
 unfold opSetT at h
 split at h
 ·rename_i i sz idx off p j m hn
  obtain ⟨b,oo,nn,cap,hE,hi,hx⟩:=is_one ha.1
  obtain ⟨us',hu,hy⟩:∃ us,AllIs e [p,.obj j] us∧ρ y=.agg us.toArray:=ha.2.1
  split at h
  ·rename_i t' Q l a hm hmj hv
   split at h
   ·rename_i hb
    rw [Bool.and_eq_true,Bool.and_eq_true] at hb
    obtain rfl:=eqb_eq.1 hb.1
    obtain rfl:=eqb_eq.1 hb.2.1
    obtain rfl:=eqb_eq.1 hb.2.2
    simp only [Option.some.injEq,Prod.mk.injEq] at h
    obtain ⟨rfl,rfl,rfl⟩:=h
    match us',hu with
    |[y0,y1],⟨a0,a1,_⟩=>
    have h0:y0=.int .i64 a:=valP_is hv a0
    subst h0
    have hu1:e[j]? =some y1:=a1
    obtain ⟨B,vals,hL⟩:=tab_lie (hM.holds i _ _ hE hm)
    have hoo:oo=0∧nn=Q.length:=by
     have hnl:(TB.wq t' Q).R.length=Q.length:=TB.len _
     rcases hL.own.2 with ⟨hh,_⟩|⟨g,c,cur,hh,_⟩
     ·cases hh
     ·cases hh;exact ⟨rfl,hnl⟩
    obtain ⟨rfl,rfl⟩:=hoo
    have hi2:=hi.2
    have hRl:(TB.wq t' Q).R.length=Q.length:=TB.len _
    have hnum:=tabRow_num hL.len
    have hall:=tabRow_len (vals:=vals) (TB.wq t' Q).wid
    have hown:w.ownsRow B t' 2 (.slice (some ⟨b,0,none⟩) (tabRow (TB.wq t' Q).R vals).length cap) (tabRow (TB.wq t' Q).R vals).length (tabRow (TB.wq t' Q).R vals).flatten:=by
     rw [hnum,hRl]
     have:=hL.own
     rw [hRl] at this
     exact this
    have hlt:idx.toNat<(tabRow (TB.wq t' Q).R vals).length:=by rw [hnum,hRl];exact hi2
    have hone:y1.oneCell'=true:=by obtain ⟨_,ao,cap,hv,_⟩:=(show Bs w y1 l from hM.holds j _ _ hu1 hmj);rw [hv];rfl
    have h1:∀ v∈[Value.int .i64 a,y1],v.oneCell'=true:=fun v hv=>by
     simp only [List.mem_cons,List.not_mem_nil,or_false] at hv
     rcases hv with rfl|rfl
     ·rfl
     ·exact hone
    obtain ⟨g,cap2,hg,_,_,hth⟩:=owns_range (sz:=2) hall hown hlt
    cases hg
    have hst:=run_storeVar_mid (P:=Try.prog) w b (idx.toNat * 2) t [Value.int .i64 a,y1].toArray hth (by exact wholeT_info hn) (all_oneCell_toArray h1)
    have hnew:=owns_setEl (sz:=2) hall hown hlt (cs:=[Value.int .i64 a,y1]) rfl
    have hset:(TB.wq t' (Q.set idx.toNat (a,l))).R=(TB.wq t' Q).R.set idx.toNat ([.int .i64 a],l):=by simp only [TB.R,List.map_set]
    have hvl:vals.length=Q.length:=by rw [hL.len,hRl]
    have hx':ρ x=.pointer (some ⟨b,idx.toNat * 2,none⟩):=by rw [hx];simp
    have hmd:Mod (fun kk=>(Value.slice (some ⟨b,0,none⟩) Q.length cap).ownBlock=some kk) w (w.setCells b (idx.toNat * 2) [Value.int .i64 a,y1]):=setCells_mod' b _ _ w rfl
    have hno:∀ kk,Sh Id' w e mem kk→(Value.slice (some ⟨b,0,none⟩) Q.length cap).ownBlock≠some kk:=fun kk hsh hk=>hsh.no hM hE hm rfl hk
    refine store_fin (run_store ho hx' (by rw [hy];simpa using hst)) (tab_upd hM hE hm hmd (B:=B) (tb:=.wq t' (Q.set idx.toNat (a,l))) (vals:=vals.set idx.toNat y1) (Nat.le_trans hL.base hmd.size) ?_ ?_ fun n v r hv hr=>?_)
    ·rw [TB.len,hset,tabRow_flat,tabRow_set]
     have:=hnew
     rw [List.length_set,hnum,hRl] at this
     show World.ownsRow _ B t' 2 _ (Q.set idx.toNat (a,l)).length _
     rw [List.length_set]
     exact this
    ·rw [TB.len]
     show _=(Q.set idx.toNat (a,l)).length
     rw [List.length_set,List.length_set,hvl]
    ·rw [hset] at hr
     by_cases hne:n=idx.toNat
     ·subst hne
      rw [List.getElem?_set_self (by rw [hvl];exact hi2)] at hv
      rw [List.getElem?_set_self (by rw [hRl];exact hi2)] at hr
      cases hv;cases hr
      exact src_byt hM hu1 hmj hno _
     ·rw [List.getElem?_set_ne (fun h=>hne h.symm)] at hv hr
      exact src_own hM hE hm hL hv hr
   ·cases h
  ·cases h
 ·cases h
def opClearT (ts:List TypeId) (us:List CV) (mem:Mem Td):OpD:=match ts,us with
 |[t],[.one (.sub i sz lo hi)]=>(match wqT t,mem[i]? with
  |some x,some ⟨.us (.ext (.tab (.wq x' Q))),true⟩=>(match eqb x x'&&eqb sz 2 with
   |true=>some ([hi=Q.length],.tup [],some (mem.set i ⟨.us (.ext (.tab (.wq x (Q.take lo++List.replicate (hi - lo) (0,[]))))),true⟩))
   |false=>none)
  |_,_=>none)
 |_,_=>none
theorem opClearT_ok {xs:Array Operand} {ts:Array TypeId} {us:List CV} {ps:List Prop} {r:SV} {mo:Option (Mem Td)} (h:opClearT ts.toList us mem=some (ps,r,mo)) (hp:∀ p∈ps,p) {o:Oper} {ρ:Operand→Value} (ho:o.op=.call { callee:=.builtin .clear,args:=xs,argTypes:=ts }) (hM:MemOk W0 G Id' w e mem)
  (ha:AllC e us (o.op.operands.toList.map ρ)):givesUpon Try.prog (fun v w'=>OutIs Id' W0 G w e r v w' mo) ((execOp ρ o).run Try.prog w):=by
 unfold opClearT at h
 split at h
 ·rename_i t i sz lo hi hts
  have hts':ts=#[t]:=by rw [← Array.toArray_toList (xs:=ts),hts]
  subst hts'
  obtain ⟨u,he,hx⟩:=allC1 ha
  rw [ho] at he
  simp [Op.operands,Call.operands] at he
  obtain ⟨x,hxy,rfl⟩:=he
  have hxe:xs=#[x]:=by rw [← Array.toArray_toList (xs:=xs),hxy]
  subst hxe
  split at h
  ·rename_i x0 x0' Q ht hm
   split at h
   ·rename_i hb
    rw [Bool.and_eq_true] at hb
    obtain rfl:=eqb_eq.1 hb.1
    obtain rfl:=eqb_eq.1 hb.2
    simp only [Option.some.injEq,Prod.mk.injEq] at h
    obtain ⟨rfl,rfl,rfl⟩:=h
    have q1:hi=Q.length:=hp _ (List.mem_cons_self ..)
    obtain ⟨ao,n,cap,hE,s1,s2,hxv⟩:=is_one hx
    obtain ⟨g1,g2,g3,_⟩:=wqT_sem ht
    obtain ⟨B,vals,hL⟩:=tab_lie (hM.holds i _ _ hE hm)
    have hRl:(TB.wq x0 Q).R.length=Q.length:=TB.len _
    have hvl:vals.length=Q.length:=by rw [hL.len,hRl]
    have hw:w.ownsRow B x0 2 (.slice ao n cap) Q.length (tabCells (TB.wq x0 Q).R vals):=by have:=hL.own;rw [hRl] at this;exact this
    have hn:n=Q.length:=by
     rcases hw.2 with ⟨h1,h2⟩|⟨g,c,cur,h1,_⟩
     ·cases h1;exact h2.symm
     ·cases h1;rfl
    subst hn
    have hfin:∀ {w2:World},(Builtin.clear_ #[t] o.type #[ρ x]).run Try.prog w=.ok (.tuple #[]) w2→(execOp ρ o).run Try.prog w=.ok (.value (.tuple #[])) w2:=fun hr=>by
     unfold execOp
     simp only [ho,resolve,invoke,builtin,Sem.run_bind,Sem.run_pure,Result.andThen_ok,List.map_toArray,List.map_cons,List.map_nil,hr]
    have hall:∀ r∈tabRow (TB.wq x0 Q).R vals,r.length=2:=tabRow_len (TB.wq x0 Q).wid
    have hRn:(TB.wq x0 (Q.take lo++List.replicate (hi - lo) (0,[]))).R=(TB.wq x0 Q).R.take lo++List.replicate (hi - lo) ([.int .i64 0],[]):=by simp [TB.R]
    rcases Nat.lt_or_ge lo Q.length with hlt|hge
    ·obtain ⟨g,rfl,hle⟩:∃ g,ao=some ⟨g,0,none⟩∧Q.length≤cap:=by
      rcases hw.2 with ⟨h1,h2⟩|⟨g,c,cur,h1,_,_,h3,_⟩
      ·omega
      ·cases h1;exact ⟨g,rfl,h3⟩
     have hxv':ρ x=.slice (some ⟨g,lo * 2,none⟩) (Q.length - lo) (cap - lo):=by
      rw [hxv,q1,if_neg (by omega)]
      simp [Addr.add]
      exact fun h=>h.symm
     obtain ⟨w2,hr,k1,k2⟩:=run_clear_part (size:=2) (ty:=o.type) (c:=cap - lo) g1 (fun w=>pureSem_run _ g3 w) rfl (by simp [Value.cells,Value.oneCell']) hw hlt
     rw [← hxv'] at hr
     rw [hfin hr]
     have hmd:Mod (fun k=>(Value.slice (some ⟨g,0,none⟩) Q.length cap).ownBlock=some k) w w2:=k2.mono fun k _ hk=>by subst hk;rfl
     have hzer:(Builtin.zeroCells (Value.agg #[.int .i64 0,.slice none 0 0]).cells (Q.length - lo)).toList=tabCells (List.replicate (Q.length - lo) ([.int .i64 0],[])) (List.replicate (Q.length - lo) (.slice none 0 0)):=by
      rw [zeroCells_flat]
      unfold tabCells
      rw [List.zipWith_replicate,Nat.min_self]
      rfl
     have htk:(tabCells (TB.wq x0 Q).R vals).take (lo * 2)=tabCells ((TB.wq x0 Q).R.take lo) (vals.take lo):=by
      rw [tabRow_flat,flat_take hall lo]
      show ((List.zipWith _ _ _).take lo).flatten=_
      rw [List.take_zipWith];rfl
     rw [htk,hzer] at k1
     have hcells:tabCells ((TB.wq x0 Q).R.take lo) (vals.take lo)++tabCells (List.replicate (Q.length - lo) ([.int .i64 0],[])) (List.replicate (Q.length - lo) (.slice none 0 0))=tabCells (TB.wq x0 (Q.take lo++List.replicate (hi - lo) (0,[]))).R (vals.take lo++List.replicate (hi - lo) (.slice none 0 0)):=by
      rw [hRn,q1]
      unfold tabCells
      rw [List.zipWith_append (by rw [List.length_take,List.length_take,hRl,hvl]),List.flatten_append]
     rw [hcells] at k1
     have hlen:(Q.take lo++List.replicate (hi - lo) ((0:Int),([]:List UInt8))).length=Q.length:=by rw [List.length_append,List.length_take,List.length_replicate];omega
     refine ⟨e,Grows.refl e,⟨[],trivial,rfl⟩,tab_upd hM hE hm hmd (B:=B) (tb:=.wq x0 (Q.take lo++List.replicate (hi - lo) (0,[]))) (vals:=vals.take lo++List.replicate (hi - lo) (.slice none 0 0)) (Nat.le_trans hL.base hmd.size) ?_ ?_ fun n v r hv hr=>?_⟩
     ·rw [TB.len]
      show w2.ownsRow B x0 2 _ (Q.take lo++List.replicate (hi - lo) (0,[])).length _
      rw [hlen]
      exact k1
     ·rw [TB.len]
      show _=(Q.take lo++List.replicate (hi - lo) (0,[])).length
      rw [hlen,List.length_append,List.length_take,List.length_replicate]
      omega
     ·rw [hRn] at hr
      rcases Nat.lt_or_ge n lo with hnl|hnl
      ·rw [List.getElem?_append_left (by rw [List.length_take];omega),List.getElem?_take_of_lt hnl] at hv
       rw [List.getElem?_append_left (by rw [List.length_take];omega),List.getElem?_take_of_lt hnl] at hr
       exact src_own hM hE hm hL hv hr
      ·rw [List.getElem?_append_right (by rw [List.length_take];omega)] at hv hr
       have hv':=List.eq_of_mem_replicate (List.mem_of_getElem? hv)
       have hr':=List.eq_of_mem_replicate (List.mem_of_getElem? hr)
       rw [hv',hr']
       exact src_nil _ _ _
    ·have hlo:Q.length - lo=0:=by omega
     have hr:(Builtin.clear_ #[t] o.type #[ρ x]).run Try.prog w=.ok (.tuple #[]) w:=by
      rw [hxv,q1,hlo]
      cases hq:(if cap=lo then ao else ao.map (·.add (lo * 2))) with
      |none=>simp [Builtin.clear_,run_underlying g1]
      |some a=>simp [Builtin.clear_,run_underlying g1]
     rw [hfin hr]
     have hsame:Q.take lo++List.replicate (hi - lo) ((0:Int),([]:List UInt8))=Q:=by
      rw [q1,hlo,List.replicate_zero,List.append_nil,List.take_of_length_le (by omega)]
     rw [hsame]
     refine ⟨e,Grows.refl e,⟨[],trivial,rfl⟩,tab_upd hM hE hm (Mod.refl _ w) hL.base hL.own hL.len fun n v r hv hr=>src_own hM hE hm hL hv hr⟩
   ·cases h
  ·cases h
 ·cases h
theorem wqT_el {t x:Nat} (h:wqT t=some x):Try.prog.underlying t=some (.slice (Try.prog.elem t))∧pureSem Try.prog (sizeOf (Try.prog.elem t))=some 2:=by
 obtain ⟨h1,h2,_⟩:=wqT_sem h
 have:Try.prog.elem t=x:=by simp [Program.elem,h1]
 rw [this]
 exact ⟨h1,h2⟩
def opSliceT (t:TypeId) (lo hi:Bool) (us:List CV) (mem:Mem Td):OpD:=match us,wqT t with
 |.one (.obj i)::rest,some _=>(match mem[i]? with
  |some ⟨.us (.ext (.tab (.wq _ Q))),_⟩=>(match lohi lo hi Q.length rest with
   |some (l,h)=>some ([0≤l∧l≤h∧h≤(Q.length:Int)],.c (.one (.sub i 2 l.toNat h.toNat)),none)
   |none=>none)
  |_=>none)
 |_,_=>none
theorem opSliceT_ok {t:TypeId} {lo hi:Option Operand} {us:List CV} {ps:List Prop} {r:SV} {mo:Option (Mem Td)} (h:opSliceT t (!isNone lo) (!isNone hi) us mem=some (ps,r,mo)) (hp:∀ p∈ps,p) {o:Oper} {ρ:Operand→Value} {x:Operand} (ho:o.op=.slice t x lo hi none) (hM:MemOk W0 G Id' w e mem) (ha:AllC e us (o.op.operands.toList.map ρ)):
  givesUpon Try.prog (fun v w'=>OutIs Id' W0 G w e r v w' mo) ((execOp ρ o).run Try.prog w):=by
 have hops:(Op.operands (.slice t x lo hi none)).toList.map ρ=ρ x::((lo.map ρ).toList++(hi.map ρ).toList):=by
  cases lo<;>cases hi<;>simp [Op.operands]
 rw [ho,hops] at ha
 have hrun:∀ {v:Value} {w':World},(Instr.sliceAt t (ρ x) (lo.map ρ) (hi.map ρ) none).run Try.prog w=.ok v w'→(execOp ρ o).run Try.prog w=.ok (.value v) w':=fun hr=>by
  unfold execOp
  simp only [ho,Option.map_none]
  rw [Sem.run_bind,hr]
  rfl
 unfold opSliceT at h
 split at h
 ·rename_i i rest x' ht
  obtain ⟨a0,a1⟩:=ha
  obtain ⟨g2,g4⟩:=wqT_el ht
  have hE:e[i]? =some (ρ x):=a0
  split at h
  ·rename_i t' Q mu hm
   split at h
   ·rename_i l hh hlh
    simp only [Option.some.injEq,Prod.mk.injEq] at h
    obtain ⟨rfl,rfl,rfl⟩:=h
    have q1:0≤l∧l≤hh∧hh≤(Q.length:Int):=hp _ (List.mem_cons_self ..)
    obtain ⟨B,vals,hL⟩:=tab_lie (hM.holds i _ _ hE hm)
    have hR:=Rs.of_owns hL.own
    rw [TB.len] at hR
    obtain ⟨_,ao,cap,hv,hcap,_⟩:=hR
    have hv:ρ x=.slice ao Q.length cap:=hv
    have hr:=lohi_at hlh a1 q1 (ao:=ao) hcap g2 (fun w=>pureSem_run _ g4 w) w (lo.map ρ) (hi.map ρ) (by cases lo<;>rfl) (by cases hi<;>rfl) rfl
    rw [hrun (by rw [hv];exact hr)]
    exact ⟨⟨ao,Q.length,cap,by rw [← hv];exact hE,by omega,by omega,rfl⟩,Ext.refl w⟩
   ·cases h
  ·cases h
 ·cases h
theorem opSliceT_mono {t:TypeId} {lo hi:Bool} {us:List CV} {m m':Mem Td} {ps:List Prop} {r:SV} (h:opSliceT t lo hi us m=some (ps,r,none)) (hl:MLe m m'):opSliceT t lo hi us m'=some (ps,r,none):=by
 unfold opSliceT at h ⊢
 split at h
 ·split at h
  ·rename_i hm
   simp only [hl _ _ hm (by simp)]
   exact h
  ·cases h
 ·cases h
def appX (t:TypeId) (us:List CV) (mem:Mem Td):OpD:=match us,wqT t with
 |[.one (.obj i),.one (.sub j sz lo hi)],some x=>(match mem[i]?,mem[j]? with
  |some ⟨.us (.ext (.tab (.wq x' P))),true⟩,some ⟨.us (.ext (.tab (.wq y' Q))),_⟩=>(match eqb x x'&&(eqb y' x&&(eqb sz 2&&!eqb i j)) with
   |true=>some ([P.length+(hi - lo)≤100000],.c (.one (.obj mem.length)),some (mem.set i ⟨.dead,true⟩++[⟨.us (.ext (.tab (.wq x (P++(Q.drop lo).take (hi - lo))))),true⟩]))
   |false=>none)
  |_,_=>none)
 |[.one (.v (.slice none 0 0)),.one (.sub j sz lo hi)],some x=>(match mem[j]? with
  |some ⟨.us (.ext (.tab (.wq y' Q))),_⟩=>(match eqb y' x&&eqb sz 2 with
   |true=>some ([hi - lo≤100000],.c (.one (.obj mem.length)),some (mem++[⟨.us (.ext (.tab (.wq x ((Q.drop lo).take (hi - lo))))),true⟩]))
   |false=>none)
  |_=>none)
 |_,_=>none
theorem appX_at {t:TypeId} {u v:CV} {mem m':Mem Td} {ps:List Prop} {r:SV} (h:appX t [u,v] mem=some (ps,r,some m')):∀ j en,mem[j]? =some en→(∀ p,u=.one p→placeP p≠some j)→m'[j]? =some en:=by
 intro j en hj hne
 unfold appX at h
 split at h
 ·rename_i i j' sz lo hi x heq ht
  simp only [List.cons.injEq,and_true] at heq
  obtain ⟨rfl,rfl⟩:=heq
  have hij:i≠j:=fun h=>hne (.obj i) rfl (by rw [h];rfl)
  split at h
  ·split at h
   ·simp only [Option.some.injEq,Prod.mk.injEq] at h
    obtain ⟨_,_,rfl⟩:=h
    rw [List.getElem?_append_left (by rw [List.length_set];exact (List.getElem?_eq_some_iff.1 hj).1),List.getElem?_set_ne hij];exact hj
   ·cases h
  ·cases h
 ·split at h
  ·split at h
   ·simp only [Option.some.injEq,Prod.mk.injEq] at h
    obtain ⟨_,_,rfl⟩:=h
    rw [List.getElem?_append_left (List.getElem?_eq_some_iff.1 hj).1];exact hj
   ·cases h
  ·cases h
 ·cases h
theorem part_is (hM:MemOk W0 G Id' w e mem) {j:Nat} {t:TypeId} {Q:List (Int×List UInt8)} {mu:Bool} (hm:mem[j]? =some ⟨.us (.ext (.tab (.wq t Q))),mu⟩) {lo hi:Nat} {u:Value} (hu:(PV.sub j 2 lo hi).is e u):
  ∃ u1 B vals,e[j]? =some u1∧TabLie w (.wq t Q) u1 B vals∧lo≤hi∧hi≤Q.length∧Rs w 2 u (hi - lo) (tabCells (TB.wq t ((Q.drop lo).take (hi - lo))).R ((vals.drop lo).take (hi - lo))):=by
 obtain ⟨ao,n,cap,hE,s1,s2,rfl⟩:=hu
 obtain ⟨B,vals,hL⟩:=tab_lie (hM.holds j _ _ hE hm)
 have hRl:(TB.wq t Q).R.length=Q.length:=TB.len _
 have hnum:=tabRow_num hL.len
 have hR:=Rs.of_owns hL.own
 have hn:n=Q.length:=by
  obtain ⟨_,ao',cap',he,_⟩:=hR
  rw [hRl] at he
  cases he;rfl
 subst hn
 have hR':Rs w 2 (.slice ao (tabRow (TB.wq t Q).R vals).length cap) (tabRow (TB.wq t Q).R vals).length (tabRow (TB.wq t Q).R vals).flatten:=by
  rw [hnum,hRl]
  rw [hRl] at hR
  exact hR
 have hall:∀ r∈tabRow (TB.wq t Q).R vals,r.length=2:=tabRow_len (TB.wq t Q).wid
 have hc:=rs_cut hall hR' s1 (by rw [hnum,hRl];exact s2)
 refine ⟨_,B,vals,hE,hL,s1,s2,?_⟩
 have he:tabCells (TB.wq t ((Q.drop lo).take (hi - lo))).R ((vals.drop lo).take (hi - lo))=(((tabRow (TB.wq t Q).R vals).drop lo).take (hi - lo)).flatten:=by
  show (List.zipWith _ _ _).flatten=(((List.zipWith _ _ _).drop lo).take (hi - lo)).flatten
  rw [List.drop_zipWith,List.take_zipWith]
  simp only [TB.R,List.map_take,List.map_drop]
 rw [he]
 exact hc
theorem part_one {t:TypeId} {Q:List (Int×List UInt8)} {u1:Value} {B:Nat} {vals:List Value} (hL:TabLie w (.wq t Q) u1 B vals) {lo m:Nat}:∀ v∈tabCells (TB.wq t ((Q.drop lo).take m)).R ((vals.drop lo).take m),v.oneCell'=true:=by
 intro v hv
 unfold tabCells at hv
 obtain ⟨l,hl1,hl2⟩:=List.mem_flatten.1 hv
 obtain ⟨i,hi⟩:=List.getElem?_of_mem hl1
 rw [List.getElem?_zipWith] at hi
 cases hr:(TB.wq t ((Q.drop lo).take m)).R[i]? with
 |none=>rw [hr] at hi;simp at hi
 |some r=>
  cases hw:((vals.drop lo).take m)[i]? with
  |none=>rw [hr,hw] at hi;simp at hi
  |some x=>
   rw [hr,hw] at hi
   simp at hi
   subst hi
   rcases List.mem_append.1 hl2 with h|h
   ·exact TB.ones _ r (List.mem_of_getElem? hr) v h
   ·simp at h;subst h
    have hw2:=hw
    rw [List.getElem?_take] at hw2
    split at hw2
    ·rw [List.getElem?_drop] at hw2
     exact hL.ones hw2
    ·cases hw2
theorem part_src {t:TypeId} {Q:List (Int×List UInt8)} {vals:List Value} {lo m n:Nat} {v:Value} {r:List Value×List UInt8} (hv:((vals.drop lo).take m)[n]? =some v) (hr:(TB.wq t ((Q.drop lo).take m)).R[n]? =some r):vals[lo+n]? =some v∧(TB.wq t Q).R[lo+n]? =some r:=by
 have e1:(TB.wq t ((Q.drop lo).take m)).R=((TB.wq t Q).R.drop lo).take m:=by simp only [TB.R,List.map_take,List.map_drop]
 rw [e1] at hr
 rw [List.getElem?_take] at hv hr
 split at hv
 ·rename_i hlt
  rw [if_pos hlt] at hr
  rw [List.getElem?_drop] at hv hr
  exact ⟨hv,hr⟩
 ·cases hv
theorem appX_ok {t:TypeId} {us:List CV} {ps:List Prop} {r:SV} {m':Mem Td} (h:appX t us mem=some (ps,r,some m')) (hp:∀ p∈ps,p) (ty:TypeId) {vs:List Value} (hM:MemOk W0 G Id' w e mem) (ha:AllC e us vs):
  ∃ e' v w',Grows e e'∧(Builtin.append_ #[t,t] ty vs.toArray).run Try.prog w=.ok v w'∧r.is e' v∧MemOk W0 G Id' w' e' m':=by
 unfold appX at h
 have hend:∀ v:Value,(e++[v])[mem.length]? =some v:=fun v=>by rw [← hM.len,List.getElem?_append_right (Nat.le_refl _)];simp
 split at h
 ·rename_i i j sz lo hi x ht
  obtain ⟨u0,u1,rfl,a0,a1⟩:=allC2 ha
  have hu0:e[i]? =some u0:=a0
  have hel:=(wqT_sem ht).2.2.2
  split at h
  ·rename_i x' P y' Q mu hm0 hm1
   split at h
   ·rename_i hb
    simp only [Bool.and_eq_true,Bool.not_eq_true'] at hb
    obtain rfl:=eqb_eq.1 hb.1
    obtain rfl:=eqb_eq.1 hb.2.1
    obtain rfl:=eqb_eq.1 hb.2.2.1
    simp only [Option.some.injEq,Prod.mk.injEq] at h
    obtain ⟨rfl,rfl,rfl⟩:=h
    have q:P.length+(hi - lo)≤100000:=hp _ (List.mem_cons_self ..)
    obtain ⟨B,vals,hL⟩:=tab_lie (hM.holds i _ _ hu0 hm0)
    obtain ⟨uj,B2,vals2,hEj,hL2,s1,s2,hRs⟩:=part_is hM hm1 (is_one a1)
    have hPl:(TB.wq y' P).R.length=P.length:=TB.len _
    have hPv:vals.length=P.length:=by rw [hL.len,hPl]
    have hQv:vals2.length=Q.length:=by rw [hL2.len];exact TB.len _
    have hown:w.ownsRow B y' 2 u0 P.length (tabCells (TB.wq y' P).R vals):=by have:=hL.own;rw [hPl] at this;exact this
    obtain ⟨v',w',hr,q1,q2,q3⟩:=run_app_at (ty:=ty) hel hown hRs (part_one hL2) (by omega) (by omega) hL.base
    have hmd:Mod (fun kk=>u0.ownBlock=some kk) w w':=(Mod.grown_row q2).mono fun _ _ hk=>hk
    have hRn:(TB.wq y' (P++(Q.drop lo).take (hi - lo))).R=(TB.wq y' P).R++(TB.wq y' ((Q.drop lo).take (hi - lo))).R:=by simp only [TB.R,List.map_append]
    have hml:((Q.drop lo).take (hi - lo)).length=hi - lo:=by rw [List.length_take,List.length_drop];omega
    have hno:∀ kk,Sh Id' w e mem kk→u0.ownBlock≠some kk:=fun kk hsh hk=>hsh.no hM hu0 hm0 rfl hk
    refine ⟨e++[v'],v',w',Grows.push e v',hr,hend v',tab_renew hM hu0 hm0 hmd (B:=B) (tb:=.wq y' (P++(Q.drop lo).take (hi - lo))) (vals:=vals++(vals2.drop lo).take (hi - lo)) (Nat.le_trans hL.base hmd.size) ?_ ?_ q3 fun n v r hv hr=>?_⟩
    ·rw [TB.len]
     show w'.ownsRow B y' 2 v' (P++(Q.drop lo).take (hi - lo)).length _
     rw [List.length_append,hml,hRn,tabCells_app0 (by rw [hPv,hPl])]
     exact q1
    ·rw [TB.len]
     show _=(P++(Q.drop lo).take (hi - lo)).length
     rw [List.length_append,List.length_append,hml,List.length_take,List.length_drop,hPv,hQv]
     omega
    ·rw [hRn] at hr
     rcases Nat.lt_or_ge n P.length with hn|hn
     ·rw [List.getElem?_append_left (by omega)] at hv hr
      exact src_own hM hu0 hm0 hL hv hr
     ·rw [List.getElem?_append_right (by omega)] at hv hr
      rw [hPv] at hv
      rw [hPl] at hr
      obtain ⟨hv,hr⟩:=part_src hv hr
      exact src_oth hM hEj hm1 hL2 hv hr hno
   ·cases h
  ·cases h
 ·rename_i j sz lo hi x ht
  obtain ⟨u0,u1,rfl,a0,a1⟩:=allC2 ha
  have hu0:u0=.slice none 0 0:=is_one a0
  subst hu0
  have hel:=(wqT_sem ht).2.2.2
  split at h
  ·rename_i y' Q mu hm1
   split at h
   ·rename_i hb
    rw [Bool.and_eq_true] at hb
    obtain rfl:=eqb_eq.1 hb.1
    obtain rfl:=eqb_eq.1 hb.2
    simp only [Option.some.injEq,Prod.mk.injEq] at h
    obtain ⟨rfl,rfl,rfl⟩:=h
    have q:hi - lo≤100000:=hp _ (List.mem_cons_self ..)
    obtain ⟨uj,B2,vals2,hEj,hL2,s1,s2,hRs⟩:=part_is hM hm1 (is_one a1)
    have hQv:vals2.length=Q.length:=by rw [hL2.len];exact TB.len _
    obtain ⟨v',w',hr,q1,q2,q3⟩:=run_app_at (ty:=ty) hel (World.ownsRow_nil w w.heap.size y' 2) hRs (part_one hL2) (by omega) (by omega) (Nat.le_refl _)
    have hx:Ext w w':=(Mod.grown_row q2).mono fun k _ hk=>by cases hk
    have hml:((Q.drop lo).take (hi - lo)).length=hi - lo:=by rw [List.length_take,List.length_drop];omega
    rw [Nat.zero_add,List.nil_append] at q1
    refine ⟨e++[v'],v',w',Grows.push e v',hr,hend v',tab_push hM hx (B:=w.heap.size) (tb:=.wq y' ((Q.drop lo).take (hi - lo))) (vals:=(vals2.drop lo).take (hi - lo)) hx.size ?_ ?_ q3 fun n v r hv hr=>?_⟩
    ·rw [TB.len]
     show w'.ownsRow w.heap.size y' 2 v' ((Q.drop lo).take (hi - lo)).length _
     rw [hml]
     exact q1
    ·rw [TB.len]
     show _=((Q.drop lo).take (hi - lo)).length
     rw [hml,List.length_take,List.length_drop,hQv]
     omega
    ·obtain ⟨hv,hr⟩:=part_src hv hr
     exact src_oth hM hEj hm1 hL2 hv hr fun kk _ h=>by cases h
   ·cases h
  ·cases h
 ·cases h
end
end Go.Proofs.Ytiiekgcjilelpaa
