/- Y56 Y57 Y58 W38 RC1 RC2 W39 W40 W41 Q1 Q2 Q3 Q4 W42 W43 W44 W45 W46 WRd Y59. -/
import Derived.Test.YtdenmoiaiemokaaY55p
import Derived.Test.YtdenmoiaiemokaaH13p
import Derived.Test.YtdenmoiaiemokaaY38p
import Derived.Test.YtdenmoiaiemokaaG3p
import Derived.Test.YtdenmoiaiemokaaF2p
import Derived.Test.YtdenmoiaiemokaaH9p
import Derived.Test.YtdenmoiaiemokaaT20p
import Derived.Test.YtdenmoiaiemokaaBasep
import Derived.Deep.QuietTactic
import Derived.Test.YtdenmoiaiemokaaH3p
import Derived.Test.YtdenmoiaiemokaaOpenp
set_option linter.unusedSimpArgs false
set_option linter.unusedVariables false
namespace Go.Proofs.Ytdenmoiaiemokaa
open Go.RowKit
abbrev RpS:=List Rw×MapT×List Rw
def rpStep (d:RcDo) (s:RpS):RpS:=
 bif d.kind==0 then (wtT s.1 d.a d.b d.c,s.2.1,s.2.2)
 else bif d.kind==1 then (s.1.filter fun r=>!hitD d.a d.b d.c r,s.2.1,s.2.2)
 else bif d.kind==2 then (s.1.filter fun r=>!hitG d.c r,s.2.1,s.2.2)
 else bif d.kind==3 then (s.1.filter fun r=>!hitC d.a d.b r,s.2.1,s.2.2)
 else bif d.kind==4 then (s.1,grT s.2.1 d.a d.b d.c d.m,rgT s.2.2 d.a d.b d.c d.m)
 else bif d.kind==5 then (s.1,drT s.2.1 d.a d.b d.c,rdT s.2.2 d.a d.b d.c)
 else bif d.kind==6 then (s.1.filter fun r=>!hitS s.2.1 r,s.2.1,s.2.2)
 else ((pnE s.1 s.2.1 d.a d.b d.c d.m).1,s.2.1,s.2.2)
def rpS (l:List RcDo):Nat→RpS
 |0=>([],[],[])
 |k+1=>rpStep (l.getD k RcDo.zero) (rpS l k)
structure RpOk (k:Nat) (s:RpS):Prop where
 nr:Nr3 s.1
 cl:∀ r∈s.1,0≤r.is.getD 2 0∧r.is.getD 2 0<8
 len:s.1.length≤8 * k
 tab:TabOk s.2.1 s.2.2
 rl:s.2.2.length≤k
theorem cl_wt {Y:List Rw} (h:∀ r∈Y,0≤r.is.getD 2 0∧r.is.getD 2 0<8) (a b c:Int):∀ r∈wtT Y a b c,0≤r.is.getD 2 0∧r.is.getD 2 0<8:=by
 unfold wtT
 cases hb:(decide (c<0)||decide (c>7)) with
 |true=>exact h
 |false=>
  cases hsE Y a b c with
  |true=>exact h
  |false=>
   intro r hr
   rcases List.mem_append.1 hr with hr|hr
   ·exact h r hr
   ·rw [List.mem_singleton] at hr
    subst hr
    rw [Bool.or_eq_false_iff,decide_eq_false_iff_not,decide_eq_false_iff_not] at hb
    show 0≤c∧c<8
    omega
theorem cl_ne {Y:List Rw} (h:∀ r∈Y,0≤r.is.getD 2 0∧r.is.getD 2 0<8) (a b:Int) (L:List Int):∀ k,∀ r∈(neS Y a b L k).1,0≤r.is.getD 2 0∧r.is.getD 2 0<8
 |0=>h
 |k+1=>cl_wt (cl_ne h a b L k) a b _
theorem RpOk.filter {k:Nat} {s:RpS} (h:RpOk k s) (p:Rw→Bool):RpOk (k+1) (s.1.filter p,s.2.1,s.2.2):=
 ⟨nrm_filter h.nr p,fun r hr=>h.cl r (List.mem_filter.1 hr).1,Nat.le_trans (List.length_filter_le _ _) (Nat.le_trans h.len (by omega)),h.tab,Nat.le_succ_of_le h.rl⟩
theorem RpOk.step {k:Nat} {s:RpS} (h:RpOk k s) (d:RcDo):RpOk (k+1) (rpStep d s):=by
 unfold rpStep
 have hl:=h.len
 have hr:=h.rl
 cases d.kind==0 with
 |true=>
  refine ⟨nrm_wt h.nr _ _ _,cl_wt h.cl _ _ _,?_,h.tab,Nat.le_succ_of_le hr⟩
  have:=wtT_len s.1 d.a d.b d.c
  show (wtT s.1 d.a d.b d.c).length≤_
  omega
 |false=>
  cases d.kind==1 with
  |true=>exact h.filter _
  |false=>
   cases d.kind==2 with
   |true=>exact h.filter _
   |false=>
    cases d.kind==3 with
    |true=>exact h.filter _
    |false=>
     cases d.kind==4 with
     |true=>
      have hg:=h.tab.grant d.a d.b d.c d.m
      exact ⟨h.nr,h.cl,by show s.1.length≤_;omega,hg.1,by have:=hg.2;show (rgT _ _ _ _ _).length≤_;omega⟩
     |false=>
      cases d.kind==5 with
      |true=>
       have hg:=h.tab.drop d.a d.b d.c
       exact ⟨h.nr,h.cl,by show s.1.length≤_;omega,hg.1,by have:=hg.2;show (rdT _ _ _ _).length≤_;omega⟩
      |false=>
       cases d.kind==6 with
       |true=>exact h.filter _
       |false=>
        refine ⟨nrm_pn h.nr _ _ _ _ _,cl_ne h.cl _ _ _ _,?_,h.tab,Nat.le_succ_of_le hr⟩
        have:=pn_len s.1 s.2.1 d.a d.b d.c d.m
        show (pnE s.1 s.2.1 d.a d.b d.c d.m).1.length≤_
        omega
theorem rpS_ok (l:List RcDo):∀ k,RpOk k (rpS l k)
 |0=>⟨rfl,fun r hr=>(by cases hr),Nat.le_refl _,TabOk.nil,Nat.le_refl _⟩
 |k+1=>(rpS_ok l k).step _
theorem gaR_nr {Y:List Rw} (h:Nr3 Y) (p:Rw→Bool):gaR p Y Y.length=Y.filter p:=by
 rw [gaR_all];exact nrm_filter h p
theorem ga_eq {Y:List Rw} (h:Nr3 Y) {p q:Rw→Bool} (hq:∀ r∈Y,q r=p r):(Y.filter q)=gaR p Y Y.length:=by
 rw [gaR_nr h]
 exact List.filter_congr hq
theorem hitD_r (a b c:Int) (r:Rw):hitD a b c r=hitr a b c r:=by unfold hitD hitr;rw [Bool.and_true (r.is.getD 2 0==c)]
theorem p1_eq {Y:List Rw} (h:Nr3 Y) {a b c:Int} (hc:0≤c):(Y.filter fun r=>!hitD a b c r)=gaR (drP c false a b) Y Y.length:=by
 refine ga_eq h fun r _=>?_
 unfold hitD drP
 rw [decide_eq_true (show c≥0 from hc),bne,Bool.and_true (r.is.getD 2 0==c)]
 cases (r.is.getD 0 0==a&&(r.is.getD 1 0==b&&true))<;>cases (r.is.getD 2 0==c)<;>rfl
theorem p2_eq {Y:List Rw} (h:Nr3 Y) {a b c:Int} (hc:decide (c≥0)=true):(Y.filter fun r=>!hitG c r)=gaR (drP c true a b) Y Y.length:=by
 refine ga_eq h fun r _=>?_
 unfold hitG drP
 rw [hc,bne]
 cases (r.is.getD 0 0==a&&(r.is.getD 1 0==b&&true))<;>cases (r.is.getD 2 0==c)<;>rfl
theorem p3_eq {Y:List Rw} (h:Nr3 Y) {a b:Int}:(Y.filter fun r=>!hitC a b r)=gaR (drP (-1) false a b) Y Y.length:=by
 refine ga_eq h fun r _=>?_
 unfold hitC drP
 rw [show decide ((-1:Int)≥0)=false from rfl]
 cases (r.is.getD 0 0==a&&(r.is.getD 1 0==b&&true))<;>rfl
theorem p6_eq {Y R:List Rw} {Z:MapT} (h:Nr3 Y) (ht:TabOk Z R):(Y.filter fun r=>!hitS Z r)=gaR (seP R) Y Y.length:=by
 refine ga_eq h fun r _=>?_
 unfold hitS seP
 rw [ht.rm]
 have:=ht.md (r.is.getD 0 0) (r.is.getD 1 0) (r.is.getD 2 0)
 rw [Bool.eq_iff_iff,Bool.not_eq_true',beq_eq_false_iff_ne,decide_eq_true_eq]
 omega
theorem p7_eq {Y R:List Rw} {Z:MapT} (ht:TabOk Z R) (a b c m:Int):pnE Y Z a b c m=rnE Y R a b c m:=by
 unfold pnE rnE
 rw [ht.oth]
theorem filter_all {Y:List Rw} {p:Rw→Bool} (h:∀ r∈Y,p r=false):(Y.filter fun r=>!p r)=Y:=by
 rw [List.filter_eq_self]
 intro r hr
 rw [h r hr];rfl
theorem has_no {Y:List Rw} {a b c:Int} (h:hsE Y a b c=false):∀ r∈Y,hitD a b c r=false:=fun r hr=>by
 rw [hs_any,List.any_eq_false] at h
 rw [hitD_r]
 have:=h r hr
 revert this
 cases hitr a b c r<;>intro h<;>first|rfl|exact absurd rfl h
theorem has_yes {k:Nat} {s:RpS} (hk:RpOk k s) {a b c:Int} (h:hsE s.1 a b c=true):0≤c:=by
 rw [hs_any,List.any_eq_true] at h
 obtain ⟨r,hr,hh⟩:=h
 obtain ⟨_,_,rfl⟩:=hitr_eq hh
 exact (hk.cl r hr).1
theorem qd_no {Y:List Rw} {a b c:Int} (h:hsE Y a b c=false):qdE Y a b c=11:=by
 unfold qdE
 have hf:(Y.filter fun r=>!hitD a b c r)=Y:=filter_all (has_no h)
 rw [hf,Int.sub_self];rfl
theorem qd_yes {Y:List Rw} (hY:Y.length≤10000) {a b c:Int} (h:hsE Y a b c=true):qdE Y a b c=0:=by
 unfold qdE
 have hlt:(Y.filter fun r=>!hitD a b c r).length<Y.length:=by
  rw [hs_any,List.any_eq_true] at h
  obtain ⟨r,hr,hh⟩:=h
  rw [List.length_filter_lt_length_iff_exists]
  exact ⟨r,hr,by rw [hitD_r,hh];decide⟩
 rw [IntWalk.i64_in _ (by omega),beq_eq_false_iff_ne.2 (by omega)];rfl
theorem same_ff {α:Type} [BEq α] [LawfulBEq α] {x y:α} (h:x=y):(!x==y)=false:=by rw [h,beq_self_eq_true];rfl
set_option maxRecDepth 100000 in
theorem rpl_lp (l:List RcDo) {W0:World} {G:Nat→Prop} (S0:Sy Td) (hS0:S0.P=Try.prog):LoopSound S0 Id' W0 G 169 (hdC (loopsC (bodyOf Try.f6)) 0) (lpG Id' 169 (hdC (loopsC (bodyOf Try.f6)) 0) 7 [(7,.c (.one (.v (.int .i64 ((0:Nat):Int)))))] [(0,.c (.one (.obj 0))),(3,.c (.one (.ptr 1 0))),(4,.c (.one (.ptr 3 0))),(5,.c (.one (.ptr 5 0))),(6,.c (.one (.ptr 6 0)))] (m6 l (rpS l 0).1 (rpS l 0).1 (rpS l 0).2.1 (rpS l 0).2.2) (.leaf (.exit 0) [] [⟨.us (.ext (.shr 5 l.length (rcEl l))),false⟩,⟨.dead,true⟩,⟨.dead,true⟩,⟨.dead,true⟩,⟨.dead,true⟩,⟨.dead,true⟩,⟨.dead,true⟩])):=by
 refine lp_sound (V:=fun k=>[(7,.c (.one (.v (.int .i64 (k:Int)))))]) (M:=(fun k=>(m6 l (rpS l k).1 (rpS l k).1 (rpS l k).2.1 (rpS l k).2.2):Nat→Mem Td)) (N:=60) (Ux:=fun k x=>match x with|.exit 0=>some ([],([⟨.us (.ext (.shr 5 l.length (rcEl l))),false⟩,⟨.dead,true⟩,⟨.dead,true⟩,⟨.dead,true⟩,⟨.dead,true⟩,⟨.dead,true⟩,⟨.dead,true⟩]:Mem Td))|_=>none) (X:=fun _ _=>True) (J:=fun _=>True) (fun k=>by kernel_rfl) trivial (fun k hk hJ f=>?_) (fun K hK k x U hk hU hX=>?_)
 ·rw [hS0]
  cases hc:(decide ((k:Int)<(l.length:Int))&&decide ((k:Int)<60)) with
  |false=>exact rnd_xD (sdRP Try.prog) rfl (sdRP_ok W0 G) (rpl_x l (rpS l k).1 [] (rpS l k).2.1 [] (rpS l k).2.2 [] k f hc) rfl trivial
  |true=>
   have hk0:k<l.length∧k<60:=by
    rw [Bool.and_eq_true,decide_eq_true_eq,decide_eq_true_eq] at hc
    omega
   have hs:0≤(k:Int)∧(k:Int).toNat<l.length:=⟨by omega,by omega⟩
   have hW:IntKind.i64.wrap ((k:Int)+1)=((k+1:Nat):Int):=by rw [IntWalk.i64_in _ (by omega)];omega
   have ok:=rpS_ok l k
   have hl:=ok.len
   have hr:=ok.rl
   have hl1:=(rpS_ok l (k+1)).len
   cases ht0:(dK l k).kind==0 with
   |true=>
    have e1:rpS l (k+1)=(wtT (rpS l k).1 (l.getD k RcDo.zero).a (l.getD k RcDo.zero).b (l.getD k RcDo.zero).c,(rpS l k).2.1,(rpS l k).2.2):=by
     show rpStep (l.getD k RcDo.zero) (rpS l k)=_
     simp only [dK,Int.toNat_natCast] at ht0
     simp only [rpStep,ht0,cond_true,cond_false]
    have q1:(rpS l (k+1)).1=(wtT (rpS l k).1 (dK l k).a (dK l k).b (dK l k).c):=by have h:=congrArg (fun s:RpS=>s.1) e1;exact h
    exact rnd_nD (sdRP Try.prog) rfl (sdRP_ok W0 G) (rpl_k0 l (rpS l k).1 (rpS l (k+1)).1 (rpS l k).2.1 (rpS l (k+1)).2.1 (rpS l k).2.2 (rpS l (k+1)).2.2 k f hc hs hW ht0 (same_ff rfl) (by omega) (by omega) (by omega) ok.nr (by omega) (by omega) rfl (by rw [← q1];omega) q1.symm ((rfl:_=_).symm.trans q1.symm) (by have h:=congrArg (fun s:RpS=>s.2.1) e1;exact h.symm) (by have h:=congrArg (fun s:RpS=>s.2.2) e1;exact h.symm)) rfl rfl (by omega) trivial
   |false=>
    cases ht1:(dK l k).kind==1 with
    |true=>
     cases hb:hsE (rpS l k).1 (dK l k).a (dK l k).b (dK l k).c with
     |true=>
      have e1:rpS l (k+1)=((rpS l k).1.filter fun r=>!hitD (l.getD k RcDo.zero).a (l.getD k RcDo.zero).b (l.getD k RcDo.zero).c r,(rpS l k).2.1,(rpS l k).2.2):=by
       show rpStep (l.getD k RcDo.zero) (rpS l k)=_
       simp only [dK,Int.toNat_natCast] at ht0 ht1
       simp only [rpStep,ht0,ht1,cond_true,cond_false]
      have q1:(rpS l (k+1)).1=((rpS l k).1.filter fun r=>!hitD (dK l k).a (dK l k).b (dK l k).c r):=by have h:=congrArg (fun s:RpS=>s.1) e1;exact h
      exact rnd_nD (sdRP Try.prog) rfl (sdRP_ok W0 G) (rpl_k1 l (rpS l k).1 (rpS l (k+1)).1 (rpS l k).2.1 (rpS l (k+1)).2.1 (rpS l k).2.2 (rpS l (k+1)).2.2 k f hc hs hW ht0 ht1 hb (same_ff (qd_yes (by omega) hb)) (by omega) (by omega) (by omega) ok.nr (by omega) (by omega) (p1_eq ok.nr (has_yes ok hb)) (by rw [← q1];omega) q1.symm (((p1_eq ok.nr (has_yes ok hb))).symm.trans q1.symm) (by have h:=congrArg (fun s:RpS=>s.2.1) e1;exact h.symm) (by have h:=congrArg (fun s:RpS=>s.2.2) e1;exact h.symm)) rfl rfl (by omega) trivial
     |false=>
      have e1:rpS l (k+1)=((rpS l k).1.filter fun r=>!hitD (l.getD k RcDo.zero).a (l.getD k RcDo.zero).b (l.getD k RcDo.zero).c r,(rpS l k).2.1,(rpS l k).2.2):=by
       show rpStep (l.getD k RcDo.zero) (rpS l k)=_
       simp only [dK,Int.toNat_natCast] at ht0 ht1
       simp only [rpStep,ht0,ht1,cond_true,cond_false]
      have q1:(rpS l (k+1)).1=((rpS l k).1.filter fun r=>!hitD (dK l k).a (dK l k).b (dK l k).c r):=by have h:=congrArg (fun s:RpS=>s.1) e1;exact h
      exact rnd_nD (sdRP Try.prog) rfl (sdRP_ok W0 G) (rpl_k1n l (rpS l k).1 (rpS l (k+1)).1 (rpS l k).2.1 (rpS l (k+1)).2.1 (rpS l k).2.2 (rpS l (k+1)).2.2 k f hc hs hW ht0 ht1 hb (same_ff (qd_no hb)) (by omega) (by omega) (by omega) ok.nr (by omega) (by omega) (filter_all (has_no hb)) (by rw [← q1];omega) q1.symm (((filter_all (has_no hb))).symm.trans q1.symm) (by have h:=congrArg (fun s:RpS=>s.2.1) e1;exact h.symm) (by have h:=congrArg (fun s:RpS=>s.2.2) e1;exact h.symm)) rfl rfl (by omega) trivial
    |false=>
     cases ht2:(dK l k).kind==2 with
     |true=>
      cases hb:decide ((dK l k).c≥0) with
      |true=>
       have hyx:((rpS l k).1.filter fun r=>!hitG (dK l k).c r)=gaR (drP (dK l k).c true (dK l k).a (dK l k).b) (rpS l k).1 (rpS l k).1.length:=p2_eq ok.nr hb
       have e1:rpS l (k+1)=((rpS l k).1.filter fun r=>!hitG (l.getD k RcDo.zero).c r,(rpS l k).2.1,(rpS l k).2.2):=by
        show rpStep (l.getD k RcDo.zero) (rpS l k)=_
        simp only [dK,Int.toNat_natCast] at ht0 ht1 ht2
        simp only [rpStep,ht0,ht1,ht2,cond_true,cond_false]
       have q1:(rpS l (k+1)).1=((rpS l k).1.filter fun r=>!hitG (dK l k).c r):=by have h:=congrArg (fun s:RpS=>s.1) e1;exact h
       exact rnd_nD (sdRP Try.prog) rfl (sdRP_ok W0 G) (rpl_k2 l (rpS l k).1 (rpS l (k+1)).1 (rpS l k).2.1 (rpS l (k+1)).2.1 (rpS l k).2.2 (rpS l (k+1)).2.2 k f hc hs hW ht0 ht1 ht2 hb (same_ff (by rw [hyx])) (by omega) (by omega) (by omega) ok.nr (by omega) (by omega) hyx (by rw [← q1];omega) q1.symm ((hyx).symm.trans q1.symm) (by have h:=congrArg (fun s:RpS=>s.2.1) e1;exact h.symm) (by have h:=congrArg (fun s:RpS=>s.2.2) e1;exact h.symm)) rfl rfl (by omega) trivial
      |false=>
       have hfa:((rpS l k).1.filter fun r=>!hitG (dK l k).c r)=(rpS l k).1:=(filter_all fun r hr=>by have h1:=(ok.cl r hr).1;have h2:=of_decide_eq_false hb;exact beq_eq_false_iff_ne.2 (by omega))
       have e1:rpS l (k+1)=((rpS l k).1.filter fun r=>!hitG (l.getD k RcDo.zero).c r,(rpS l k).2.1,(rpS l k).2.2):=by
        show rpStep (l.getD k RcDo.zero) (rpS l k)=_
        simp only [dK,Int.toNat_natCast] at ht0 ht1 ht2
        simp only [rpStep,ht0,ht1,ht2,cond_true,cond_false]
       have q1:(rpS l (k+1)).1=((rpS l k).1.filter fun r=>!hitG (dK l k).c r):=by have h:=congrArg (fun s:RpS=>s.1) e1;exact h
       exact rnd_nD (sdRP Try.prog) rfl (sdRP_ok W0 G) (rpl_k2n l (rpS l k).1 (rpS l (k+1)).1 (rpS l k).2.1 (rpS l (k+1)).2.1 (rpS l k).2.2 (rpS l (k+1)).2.2 k f hc hs hW ht0 ht1 ht2 hb (same_ff (by rw [hfa,Int.sub_self];rfl)) (by omega) (by omega) (by omega) ok.nr (by omega) (by omega) hfa (by rw [← q1];omega) q1.symm ((hfa).symm.trans q1.symm) (by have h:=congrArg (fun s:RpS=>s.2.1) e1;exact h.symm) (by have h:=congrArg (fun s:RpS=>s.2.2) e1;exact h.symm)) rfl rfl (by omega) trivial
     |false=>
      cases ht3:(dK l k).kind==3 with
      |true=>
       have e1:rpS l (k+1)=((rpS l k).1.filter fun r=>!hitC (l.getD k RcDo.zero).a (l.getD k RcDo.zero).b r,(rpS l k).2.1,(rpS l k).2.2):=by
        show rpStep (l.getD k RcDo.zero) (rpS l k)=_
        simp only [dK,Int.toNat_natCast] at ht0 ht1 ht2 ht3
        simp only [rpStep,ht0,ht1,ht2,ht3,cond_true,cond_false]
       have q1:(rpS l (k+1)).1=((rpS l k).1.filter fun r=>!hitC (dK l k).a (dK l k).b r):=by have h:=congrArg (fun s:RpS=>s.1) e1;exact h
       exact rnd_nD (sdRP Try.prog) rfl (sdRP_ok W0 G) (rpl_k3 l (rpS l k).1 (rpS l (k+1)).1 (rpS l k).2.1 (rpS l (k+1)).2.1 (rpS l k).2.2 (rpS l (k+1)).2.2 k f hc hs hW ht0 ht1 ht2 ht3 (same_ff (by rw [p3_eq ok.nr])) (by omega) (by omega) (by omega) ok.nr (by omega) (by omega) (p3_eq ok.nr) (by rw [← q1];omega) q1.symm (((p3_eq ok.nr)).symm.trans q1.symm) (by have h:=congrArg (fun s:RpS=>s.2.1) e1;exact h.symm) (by have h:=congrArg (fun s:RpS=>s.2.2) e1;exact h.symm)) rfl rfl (by omega) trivial
      |false=>
       cases ht4:(dK l k).kind==4 with
       |true=>
        have e1:rpS l (k+1)=((rpS l k).1,grT (rpS l k).2.1 (l.getD k RcDo.zero).a (l.getD k RcDo.zero).b (l.getD k RcDo.zero).c (l.getD k RcDo.zero).m,rgT (rpS l k).2.2 (l.getD k RcDo.zero).a (l.getD k RcDo.zero).b (l.getD k RcDo.zero).c (l.getD k RcDo.zero).m):=by
         show rpStep (l.getD k RcDo.zero) (rpS l k)=_
         simp only [dK,Int.toNat_natCast] at ht0 ht1 ht2 ht3 ht4
         simp only [rpStep,ht0,ht1,ht2,ht3,ht4,cond_true,cond_false]
        have q1:(rpS l (k+1)).1=((rpS l k).1):=by have h:=congrArg (fun s:RpS=>s.1) e1;exact h
        exact rnd_nD (sdRP Try.prog) rfl (sdRP_ok W0 G) (rpl_k4 l (rpS l k).1 (rpS l (k+1)).1 (rpS l k).2.1 (rpS l (k+1)).2.1 (rpS l k).2.2 (rpS l (k+1)).2.2 k f hc hs hW ht0 ht1 ht2 ht3 ht4 (by omega) (by omega) (by omega) ok.nr (by omega) (by omega) rfl (by rw [← q1];omega) q1.symm ((rfl:_=_).symm.trans q1.symm) (by have h:=congrArg (fun s:RpS=>s.2.1) e1;exact h.symm) (by have h:=congrArg (fun s:RpS=>s.2.2) e1;exact h.symm)) rfl rfl (by omega) trivial
       |false=>
        cases ht5:(dK l k).kind==5 with
        |true=>
         have e1:rpS l (k+1)=((rpS l k).1,drT (rpS l k).2.1 (l.getD k RcDo.zero).a (l.getD k RcDo.zero).b (l.getD k RcDo.zero).c,rdT (rpS l k).2.2 (l.getD k RcDo.zero).a (l.getD k RcDo.zero).b (l.getD k RcDo.zero).c):=by
          show rpStep (l.getD k RcDo.zero) (rpS l k)=_
          simp only [dK,Int.toNat_natCast] at ht0 ht1 ht2 ht3 ht4 ht5
          simp only [rpStep,ht0,ht1,ht2,ht3,ht4,ht5,cond_true,cond_false]
         have q1:(rpS l (k+1)).1=((rpS l k).1):=by have h:=congrArg (fun s:RpS=>s.1) e1;exact h
         exact rnd_nD (sdRP Try.prog) rfl (sdRP_ok W0 G) (rpl_k5 l (rpS l k).1 (rpS l (k+1)).1 (rpS l k).2.1 (rpS l (k+1)).2.1 (rpS l k).2.2 (rpS l (k+1)).2.2 k f hc hs hW ht0 ht1 ht2 ht3 ht4 ht5 (by omega) (by omega) (by omega) ok.nr (by omega) (by omega) rfl (by rw [← q1];omega) q1.symm ((rfl:_=_).symm.trans q1.symm) (by have h:=congrArg (fun s:RpS=>s.2.1) e1;exact h.symm) (by have h:=congrArg (fun s:RpS=>s.2.2) e1;exact h.symm)) rfl rfl (by omega) trivial
        |false=>
         cases ht6:(dK l k).kind==6 with
         |true=>
          have e1:rpS l (k+1)=((rpS l k).1.filter fun r=>!hitS (rpS l k).2.1 r,(rpS l k).2.1,(rpS l k).2.2):=by
           show rpStep (l.getD k RcDo.zero) (rpS l k)=_
           simp only [dK,Int.toNat_natCast] at ht0 ht1 ht2 ht3 ht4 ht5 ht6
           simp only [rpStep,ht0,ht1,ht2,ht3,ht4,ht5,ht6,cond_true,cond_false]
          have q1:(rpS l (k+1)).1=((rpS l k).1.filter fun r=>!hitS (rpS l k).2.1 r):=by have h:=congrArg (fun s:RpS=>s.1) e1;exact h
          exact rnd_nD (sdRP Try.prog) rfl (sdRP_ok W0 G) (rpl_k6 l (rpS l k).1 (rpS l (k+1)).1 (rpS l k).2.1 (rpS l (k+1)).2.1 (rpS l k).2.2 (rpS l (k+1)).2.2 k f hc hs hW ht0 ht1 ht2 ht3 ht4 ht5 ht6 (same_ff (by rw [p6_eq ok.nr ok.tab])) (by omega) (by omega) (by omega) ok.nr (by omega) (by omega) (p6_eq ok.nr ok.tab) (by rw [← q1];omega) q1.symm (((p6_eq ok.nr ok.tab)).symm.trans q1.symm) (by have h:=congrArg (fun s:RpS=>s.2.1) e1;exact h.symm) (by have h:=congrArg (fun s:RpS=>s.2.2) e1;exact h.symm)) rfl rfl (by omega) trivial
         |false=>
          have e1:rpS l (k+1)=((pnE (rpS l k).1 (rpS l k).2.1 (l.getD k RcDo.zero).a (l.getD k RcDo.zero).b (l.getD k RcDo.zero).c (l.getD k RcDo.zero).m).1,(rpS l k).2.1,(rpS l k).2.2):=by
           show rpStep (l.getD k RcDo.zero) (rpS l k)=_
           simp only [dK,Int.toNat_natCast] at ht0 ht1 ht2 ht3 ht4 ht5 ht6
           simp only [rpStep,ht0,ht1,ht2,ht3,ht4,ht5,ht6,cond_true,cond_false]
          have q1:(rpS l (k+1)).1=((pnE (rpS l k).1 (rpS l k).2.1 (dK l k).a (dK l k).b (dK l k).c (dK l k).m).1):=by have h:=congrArg (fun s:RpS=>s.1) e1;exact h
          exact rnd_nD (sdRP Try.prog) rfl (sdRP_ok W0 G) (rpl_k7 l (rpS l k).1 (rpS l (k+1)).1 (rpS l k).2.1 (rpS l (k+1)).2.1 (rpS l k).2.2 (rpS l (k+1)).2.2 k f hc hs hW ht0 ht1 ht2 ht3 ht4 ht5 ht6 (same_ff (congrArg Prod.snd (p7_eq ok.tab _ _ _ _))) (by omega) (by omega) (by omega) ok.nr (by omega) (by omega) (congrArg Prod.fst (p7_eq ok.tab _ _ _ _)) (by rw [← q1];omega) q1.symm (((congrArg Prod.fst (p7_eq ok.tab _ _ _ _))).symm.trans q1.symm) (by have h:=congrArg (fun s:RpS=>s.2.1) e1;exact h.symm) (by have h:=congrArg (fun s:RpS=>s.2.2) e1;exact h.symm)) rfl rfl (by omega) trivial
 ·revert hU
  match x with
  |.exit 0=>intro hU;simp only [Option.some.injEq] at hU;subst hU;exact hK
  |.normal=>intro hU;cases hU
  |.ret=>intro hU;cases hU
  |.exit (n+1)=>intro hU;cases hU
set_option maxRecDepth 100000 in
theorem rplays_w0 (l:List RcDo) :∃ qs,wayO Id' ([⟨.us (.ext (.shr 5 l.length (rcEl l))),false⟩]:Mem Td).length [⟨.us (.ext (.shr 5 l.length (rcEl l))),false⟩] (svV (.bool true)) ((runFn (⟨Try.prog,[(33,ctrF Id' C_pnew hardD),(34,ctrF Id' C_tnew hardD),(44,ctrF Id' C_lv22 hardD)],[E_of Try.prog 57,E_of Try.prog 72],dkHo,Id'.one,60⟩:Sy Td) [(4,(lpG Id' 169 (hdC (loopsC (bodyOf Try.f6)) 0) 7 [(7,.c (.one (.v (.int .i64 ((0:Nat):Int)))))] [(0,.c (.one (.obj 0))),(3,.c (.one (.ptr 1 0))),(4,.c (.one (.ptr 3 0))),(5,.c (.one (.ptr 5 0))),(6,.c (.one (.ptr 6 0)))] [⟨.us (.ext (.shr 5 l.length (rcEl l))),false⟩,⟨.bx [.obj 7],true⟩,⟨.dead,true⟩,⟨.bx [.obj 4],true⟩,⟨.us (.ext (.mp (rpS l 0).2.1)),true⟩,⟨.bx [.obj 8],true⟩,⟨.bx [.obj 9],true⟩,⟨.us (.ext (.flat (.rw 72 [false,false,false] (rpS l 0).1))),true⟩,⟨.us (.ext (.flat (.rw 176 [false,false,false] (rpS l 0).1))),true⟩,⟨.us (.ext (.flat (.rw 178 [false,false,false,false] (rpS l 0).2.2))),true⟩] (.leaf (.exit 0) [] [⟨.us (.ext (.shr 5 l.length (rcEl l))),false⟩,⟨.dead,true⟩,⟨.dead,true⟩,⟨.dead,true⟩,⟨.dead,true⟩,⟨.dead,true⟩,⟨.dead,true⟩])))] Try.f6 [.one (.obj 0)] [⟨.us (.ext (.shr 5 l.length (rcEl l))),false⟩]).al [])=some qs∧∀ q∈qs,q:=
 ⟨[(Th.ext (Dk.shr 5 l.length (rcEl l)):Td)=Th.ext (Dk.shr 5 l.length (rcEl l)),(Th.ext (Dk.mp []):Td)=Th.ext (Dk.mp []),(Th.ext (Dk.flat (FL.rw 72 [false,false,false] [])):Td)=Th.ext (Dk.flat (FL.rw 72 [false,false,false] [])),∀ (w:World),Id'.holds (Th.ext (Dk.flat (FL.rw 176 [false,false,false] (rpS l (0:Nat)).fst))) w nilV∧∀ (j:Nat),¬Id'.foot (Th.ext (Dk.flat (FL.rw 176 [false,false,false] (rpS l (0:Nat)).fst))) w nilV j,∀ (w:World),Id'.holds (Th.ext (Dk.flat (FL.rw 178 [false,false,false,false] (rpS l (0:Nat)).snd.snd))) w nilV∧∀ (j:Nat),¬Id'.foot (Th.ext (Dk.flat (FL.rw 178 [false,false,false,false] (rpS l (0:Nat)).snd.snd))) w nilV j,Value.int IntKind.i64 (Int.ofNat 0)=Value.int IntKind.i64 (Int.ofNat (0:Nat)),(Th.ext (Dk.shr 5 l.length (rcEl l)):Td)=Th.ext (Dk.shr 5 l.length (rcEl l)),Value.bool true=Value.bool true],by kernel_rfl,(by refine mcons ?_ (mcons ?_ (mcons ?_ (mcons ?_ (mcons ?_ (mcons ?_ (mcons ?_ (mcons ?_ mnil)))))))<;>first|rfl|trivial|(exact nil_rw3 rfl))⟩
theorem rplays_c (l:List RcDo):∀ w e vs,MemOk w (FootOf Id' w e [⟨.us (.ext (.shr 5 l.length (rcEl l))),false⟩]) Id' w e [⟨.us (.ext (.shr 5 l.length (rcEl l))),false⟩]→AllC e [.one (.obj 0)] vs→
  Calls Try.prog 6 vs.toArray w (fun y w'=>∃ v e',y=.returned v∧Grows e e'∧(svV (.bool true)).is e' v∧MemOk w (FootOf Id' w e [⟨.us (.ext (.shr 5 l.length (rcEl l))),false⟩]) Id' w' e' [⟨.us (.ext (.shr 5 l.length (rcEl l))),false⟩]):=by
 intro w e vs hM ha
 exact ctr_way (I:=Id') (fun (W0:World) (G:Nat→Prop)=>SyOk.mk2 Try.mixed dkHo_ok (FnsR.cons (R_pnew) (FnsR.cons (R_tnew) (FnsR.cons (R_lv22) (FnsR.nil)))) (E_of_ok (by kernel_rfl) (E_of_ok (by kernel_rfl) (EqsOk.nil)))) rfl Try.func6 (by kernel_rfl) (fun W0 G=>LpsOk.cons (by kernel_rfl) (rpl_lp l _ rfl) (LpsOk.nil _)) (cs:=[]) (by kernel_rfl) (rplays_w0 l ) w e vs hM ha
def deOk (L:List (List UInt8)):Bool:=dbE (stO L L.length)==0&&decide (dbB (stO L L.length)=L)
def deR (L:List (List UInt8)):List Rw:=bif deOk L then (stO L L.length) else []
section
variable {w w':World} {N:Nat→Prop} {o xb:Nat} {bs:List Bool} {err:Int}
end
section
variable {β:Type} {I:ObI β} {W0:World} {G:Nat→Prop} {w w':World} {E:Env} {mem:Mem β}
end
theorem gL_snoc:∀ (n:Nat) (s:RS),gL (n+1) s=gL n s++[gU (gS n s)]
 |0,s=>rfl
 |n+1,s=>by
  show gU s::gL (n+1) (s.get 8)=(gU s::gL n (s.get 8))++[gU (gS n (s.get 8))]
  rw [gL_snoc n (s.get 8)];rfl
theorem gS_snoc:∀ (n:Nat) (s:RS),gS (n+1) s=(gS n s).get 8
 |0,s=>rfl
 |n+1,s=>gS_snoc n (s.get 8)
theorem gL_len:∀ (n:Nat) (s:RS),(gL n s).length=n
 |0,s=>rfl
 |n+1,s=>by simp [gL,gL_len n (s.get 8)]
def slE (b:List UInt8) (i:Int):RS:=⟨b,0+(IntKind.i64.wrap (172 * i)).toNat,0⟩
def gq (s:RS):Int:=IntKind.i64.wrap (s.num 5:Int)
def inEd (s:RS):Bool:=decide (gq s>0)&&decide (gq s≤16)
def entH (s:RS):Rw:=⟨[gA s,gB s,gC s],[⟨(((gL 16 (g4 s)).drop 0).take ((gq s).toNat - 0)).toArray⟩]⟩
def stH (b:List UInt8) (X:List Rw):Nat→List Rw
 |0=>X
 |k+1=>bif inEd (slE b (k:Int)) then stH b X k++[entH (slE b (k:Int))] else stH b X k
def stR (L:List (List UInt8)):Nat→List Rw
 |0=>[]
 |k+1=>stH (L.getD k []) (stR L k) 5
section
variable {P:Program} {α β:Type}
end
section
variable {W0:World} {G:Nat→Prop} {w:World} {e:Env} {mem:Mem Td}
end
section
variable {S:Sy Td} {W0:World} {G:Nat→Prop} {base:List (Nat×SV)} {sz:Nat} {l:List Oper}
end
section
variable {W0:World} {G:Nat→Prop} {sz:Nat}
end
theorem get_at {b:List UInt8} {p:Nat} (n:Nat) (hn:n≤64) (h:p+n≤8 * b.length):(⟨b,p,0⟩:RS).get (n:Int)=⟨b,p+n,0⟩∧(⟨b,p,0⟩:RS).num (n:Int)=val (((bitsAll b).drop p).take n):=RS.get_ok rfl hn h
theorem i64_num (s:RS) (n:Nat) (hn:n≤40):IntKind.i64.wrap (s.num (n:Int):Int)=(s.num (n:Int):Int):=by
 have h:=RS.num_lt s n
 have:(2:Nat) ^ n≤2 ^ 40:=Nat.pow_le_pow_right (by decide) hn
 have e:(2:Nat) ^ 40=1099511627776:=by decide
 exact IntWalk.i64_in _ (by omega)
def slB (b:List UInt8) (p:Nat):List Bool:=(bitsAll b).drop p
theorem g4_at {b:List UInt8} {p:Nat} (h:p+172≤8 * b.length):g4 ⟨b,p,0⟩=⟨b,p+44,0⟩∧gq ⟨b,p,0⟩=(val ((slB b p).take 5):Int)∧gA ⟨b,p,0⟩=(val (((slB b p).drop 5).take 6):Int)∧gB ⟨b,p,0⟩=(val (((slB b p).drop 11).take 31):Int)∧gC ⟨b,p,0⟩=(val (((slB b p).drop 42).take 2):Int):=by
 have h5:(⟨b,p,0⟩:RS).get 5=⟨b,p+5,0⟩∧(⟨b,p,0⟩:RS).num 5=_:=get_at 5 (by decide) (by omega)
 have h6:(⟨b,p+5,0⟩:RS).get 6=⟨b,p+11,0⟩∧(⟨b,p+5,0⟩:RS).num 6=_:=get_at 6 (by decide) (by omega)
 have h31:(⟨b,p+11,0⟩:RS).get 31=⟨b,p+42,0⟩∧(⟨b,p+11,0⟩:RS).num 31=_:=get_at 31 (by decide) (by omega)
 have h2:(⟨b,p+42,0⟩:RS).get 2=⟨b,p+44,0⟩∧(⟨b,p+42,0⟩:RS).num 2=_:=get_at 2 (by decide) (by omega)
 have w5:=i64_num ⟨b,p,0⟩ 5 (by decide)
 have w6:=i64_num ⟨b,p+5,0⟩ 6 (by decide)
 have w31:=i64_num ⟨b,p+11,0⟩ 31 (by decide)
 have w2:=i64_num ⟨b,p+42,0⟩ 2 (by decide)
 refine ⟨?_,?_,?_,?_,?_⟩
 ·unfold g4
  rw [h5.1,h6.1,h31.1,h2.1]
 ·unfold gq
  exact w5.trans (congrArg _ h5.2)
 ·unfold gA
  rw [h5.1]
  refine w6.trans (congrArg _ (h6.2.trans ?_))
  unfold slB
  rw [List.drop_drop]
 ·unfold gB
  rw [h5.1,h6.1]
  refine w31.trans (congrArg _ (h31.2.trans ?_))
  unfold slB
  rw [List.drop_drop]
 ·unfold gC
  rw [h5.1,h6.1,h31.1]
  refine w2.trans (congrArg _ (h2.2.trans ?_))
  unfold slB
  rw [List.drop_drop]
theorem gS_at {b:List UInt8} {q:Nat}:∀ n,q+8 * n≤8 * b.length→gS n ⟨b,q,0⟩=⟨b,q+8 * n,0⟩
 |0,_=>rfl
 |n+1,h=>by
  rw [gS_snoc,gS_at n (by omega)]
  have:=(get_at (b:=b) (p:=q+8 * n) 8 (by decide) (by omega)).1
  exact this
theorem gL_at {b:List UInt8} {q:Nat}:∀ n,q+8 * n≤8 * b.length→gL n ⟨b,q,0⟩=(List.range n).map fun j=>UInt8.ofNat (val ((slB b (q+8 * j)).take 8))
 |0,_=>rfl
 |n+1,h=>by
  rw [gL_snoc,gL_at n (by omega),gS_at n (by omega),List.range_succ,List.map_append]
  congr 1
  have h8:=(get_at (b:=b) (p:=q+8 * n) 8 (by decide) (by omega)).2
  have hl:=RS.num_lt ⟨b,q+8 * n,0⟩ 8
  have e8:(2:Nat) ^ 8=256:=by decide
  show [gU _]=[_]
  unfold gU
  have hw:IntKind.u8.wrap ((⟨b,q+8 * n,0⟩:RS).num 8:Int)=((⟨b,q+8 * n,0⟩:RS).num 8:Int):=by
   have:((⟨b,q+8 * n,0⟩:RS).num ((8:Nat):Int))<256:=by rw [← e8];exact hl
   have e:(⟨b,q+8 * n,0⟩:RS).num ((8:Nat):Int)=(⟨b,q+8 * n,0⟩:RS).num 8:=rfl
   rw [IntKind.wrap_u8];omega
  rw [hw,Int.toNat_natCast]
  congr 2
theorem gE_at {b:List UInt8} {p:Nat} (h:p+172≤8 * b.length):gE ⟨b,p,0⟩=⟨b,p+172,0⟩:=by
 unfold gE
 rw [(g4_at h).1,gS_at 16 (by omega)]
theorem nmB_app (l:List Bool) (nm:ByteArray):∀ k,nmB l nm k=l++nmB [] nm k
 |0=>(List.append_nil l).symm
 |k+1=>by simp only [nmB];rw [nmB_app l nm k,List.append_assoc]
def entF (r:Rw):List Bool:=entB [] r
theorem entB_app (l:List Bool) (r:Rw):entB l r=l++entF r:=by
 unfold entF entB
 rw [nmB_app,nmB_app (_++_)]
 simp only [List.append_assoc,List.nil_append]
theorem entsB_at (Y:List Rw) (t:List Bool):∀ k,k≤Y.length→∀ j,j<k→∃ t',(entsB Y k++t).drop (172 * j)=entF (Y.getD j Rw.zero)++t'
 |0,_,j,hj=>absurd hj (Nat.not_lt_zero j)
 |k+1,hk,j,hj=>by
  have hl:=entsB_len Y k
  rcases Nat.lt_or_ge j k with h|h
  ·obtain ⟨t',ht⟩:=entsB_at Y (entF (Y.getD k Rw.zero)++t) k (by omega) j h
   refine ⟨t',?_⟩
   show (entB (entsB Y k) (Y.getD k Rw.zero)++t).drop _=_
   rw [entB_app,List.append_assoc]
   exact ht
  ·have:j=k:=by omega
   subst this
   refine ⟨t,?_⟩
   show (entB (entsB Y j) (Y.getD j Rw.zero)++t).drop _=_
   rw [entB_app,List.append_assoc,List.drop_left' hl]
theorem nmB_at (nm:ByteArray) (t:List Bool):∀ k j,j<k→∃ t',(nmB [] nm k++t).drop (8 * j)=bitsOf (IntKind.u64.wrap (chI nm (j:Int))).toNat 8++t'
 |0,j,hj=>absurd hj (Nat.not_lt_zero j)
 |k+1,j,hj=>by
  have hl:=nmB_len [] nm k
  rw [List.length_nil,Nat.zero_add] at hl
  rcases Nat.lt_or_ge j k with h|h
  ·obtain ⟨t',ht⟩:=nmB_at nm (bitsOf (IntKind.u64.wrap (chI nm (k:Int))).toNat 8++t) k j h
   refine ⟨t',?_⟩
   show (nmB [] nm k++_++t).drop _=_
   rw [List.append_assoc]
   exact ht
  ·have:j=k:=by omega
   subst this
   refine ⟨t,?_⟩
   show (nmB [] nm j++_++t).drop _=_
   rw [List.append_assoc,List.drop_left' hl]
theorem take_len {l t:List Bool} {n:Nat} (h:l.length=n):(l++t).take n=l:=List.take_left' h
theorem entF_parts (r:Rw):entF r=bitsOf (IntKind.u64.wrap ((r.ss.getD 0 ⟨#[]⟩).size:Int)).toNat 5++(bitsOf (IntKind.u64.wrap (r.is.getD 0 0)).toNat 6++(bitsOf (IntKind.u64.wrap (r.is.getD 1 0)).toNat 31++(bitsOf (IntKind.u64.wrap (r.is.getD 2 0)).toNat 2++nmB [] (r.ss.getD 0 ⟨#[]⟩) 16))):=by
 unfold entF entB
 rw [nmB_app]
 simp only [List.append_assoc,List.nil_append]
theorem u64_nat {x:Int} {m:Nat} (h:0≤x∧x<(m:Int)) (hm:m≤18446744073709551616):(IntKind.u64.wrap x).toNat=x.toNat:=by rw [u64w_id (by omega)]
theorem read_ent {b:List UInt8} {p:Nat} {r:Rw} {t:List Bool} (h:p+172≤8 * b.length) (hr:isR r=true) (hB:slB b p=entF r++t):
  gq ⟨b,p,0⟩=((r.ss.getD 0 ⟨#[]⟩).size:Int)∧gA ⟨b,p,0⟩=r.is.getD 0 0∧gB ⟨b,p,0⟩=r.is.getD 1 0∧gC ⟨b,p,0⟩=r.is.getD 2 0∧(gL 16 (g4 ⟨b,p,0⟩)).take (r.ss.getD 0 ⟨#[]⟩).size=(r.ss.getD 0 ⟨#[]⟩).data.toList:=by
 obtain ⟨hn,ha,hb,hc⟩:=isE_in hr
 obtain ⟨k0,k1,k2,k3,k4⟩:=g4_at h
 rw [entF_parts] at hB
 simp only [List.append_assoc] at hB
 have hsz:(r.ss.getD 0 ⟨#[]⟩).data.toList.length=(r.ss.getD 0 ⟨#[]⟩).size:=Array.length_toList
 refine ⟨?_,?_,?_,?_,?_⟩
 ·rw [k1,hB,take_len (bitsOf_length _ _),u64_nat (m:=17) ⟨by omega,by omega⟩ (by decide),val_bits_id (by rw [Int.toNat_natCast];omega),Int.toNat_natCast]
 ·rw [k2,hB,List.drop_left' (bitsOf_length _ _),take_len (bitsOf_length _ _),u64_nat (m:=41) ⟨by omega,by omega⟩ (by decide),val_bits_id (by show _<64;omega)]
  omega
 ·have e:∀ l:List Bool,l.drop 11=(l.drop 5).drop 6:=fun l=>by rw [List.drop_drop]
  rw [k3,hB,e,List.drop_left' (bitsOf_length _ _),List.drop_left' (bitsOf_length _ _),take_len (bitsOf_length _ _),u64_nat (m:=2147483648) ⟨by omega,by omega⟩ (by decide),val_bits_id (by show _<2147483648;omega)]
  omega
 ·have e:∀ l:List Bool,l.drop 42=((l.drop 5).drop 6).drop 31:=fun l=>by rw [List.drop_drop,List.drop_drop]
  rw [k4,hB,e,List.drop_left' (bitsOf_length _ _),List.drop_left' (bitsOf_length _ _),List.drop_left' (bitsOf_length _ _),take_len (bitsOf_length _ _),u64_nat (m:=3) ⟨by omega,by omega⟩ (by decide),val_bits_id (by show _<4;omega)]
  omega
 ·rw [k0,gL_at 16 (by omega)]
  apply List.ext_getElem
  ·rw [List.length_take,List.length_map,List.length_range,hsz];omega
  ·intro j h1 h2
   rw [List.getElem_take,List.getElem_map,List.getElem_range]
   have hj:j<16:=by rw [hsz] at h2;omega
   have e:slB b (p+44+8 * j)=((((slB b p).drop 5).drop 6).drop 31 |>.drop 2).drop (8 * j):=by
    unfold slB
    rw [List.drop_drop,List.drop_drop,List.drop_drop,List.drop_drop,List.drop_drop]
    congr 1
    omega
   obtain ⟨t',ht⟩:=nmB_at (r.ss.getD 0 ⟨#[]⟩) t 16 j hj
   have hcj:chI (r.ss.getD 0 ⟨#[]⟩) (j:Int)=(((r.ss.getD 0 ⟨#[]⟩).data.toList[j]).toNat:Int):=by
    unfold chI
    rw [decide_eq_true (by rw [hsz] at h2;omega),cond_true,Int.toNat_natCast,List.getD_eq_getElem?_getD,List.getElem?_eq_getElem h2];rfl
   rw [e,hB,List.drop_left' (bitsOf_length _ _),List.drop_left' (bitsOf_length _ _),List.drop_left' (bitsOf_length _ _),List.drop_left' (bitsOf_length _ _),ht,take_len (bitsOf_length _ _),hcj]
   have hlt:=((r.ss.getD 0 ⟨#[]⟩).data.toList[j]).toNat_lt
   rw [u64_nat (m:=256) ⟨by omega,by omega⟩ (by decide),Int.toNat_natCast,val_bits_id (by show _<256;omega)]
   simp
theorem val_zero:∀ l:List Bool,(∀ x∈l,x=false)→val l=0
 |[],_=>rfl
 |a::l,h=>by
  rw [val_cons,h a (List.mem_cons_self ..),val_zero l fun x hx=>h x (List.mem_cons_of_mem _ hx)];simp
theorem read_none {b:List UInt8} {p:Nat} (h:p+172≤8 * b.length) (hB:∀ x∈slB b p,x=false):gq ⟨b,p,0⟩=0:=by
 rw [(g4_at h).2.1,val_zero _ fun x hx=>hB x (List.mem_of_mem_take hx)];rfl
theorem bits_blk (Y:List Rw):∃ k,bitsAll (blkD Y)=entsB Y Y.length++List.replicate k false:=by
 obtain ⟨k,_,h⟩:=bitsAll_packed _ (entsB Y Y.length) (Nat.le_refl _)
 have hz:∀ n,bitsAll (List.replicate n 0)=List.replicate (8 * n) false:=fun n=>by
  induction n with
  |zero=>rfl
  |succ n ih=>
   rw [List.replicate_succ]
   show bitsOf 0 8++bitsAll _=_
   rw [ih,Nat.mul_succ,Nat.add_comm,←List.replicate_append_replicate];rfl
 refine ⟨k+8 * (128 - (packed (entsB Y Y.length)).length),?_⟩
 unfold blkD padL
 rw [bitsAll_append,h,hz,List.append_assoc,List.replicate_append_replicate]
theorem blkD_len {Y:List Rw} (hl:Y.length≤5):(blkD Y).length=128:=by
 unfold blkD padL
 rw [List.length_append,List.length_replicate,packed_length,entsB_len]
 omega
theorem nm_eq {nm:ByteArray} {l:List UInt8} (h:l=nm.data.toList):(⟨l.toArray⟩:ByteArray)=nm:=by
 subst h
 simp
theorem slot_in {Y:List Rw} (hl:Y.length≤5) (hr:∀ r∈Y,isR r=true) {k:Nat} (hk:k<Y.length):entH ⟨blkD Y,172 * k,0⟩=nrm4 (Y.getD k Rw.zero)∧entG ⟨blkD Y,172 * k,0⟩=nrm4 (Y.getD k Rw.zero)∧inEd ⟨blkD Y,172 * k,0⟩=true∧((gNm ⟨blkD Y,172 * k,0⟩).toList==(⟨#[]⟩:ByteArray).toList)=false∧gq ⟨blkD Y,172 * k,0⟩≤16:=by
 obtain ⟨z,hz⟩:=bits_blk Y
 obtain ⟨t',ht⟩:=entsB_at Y (List.replicate z false) Y.length (Nat.le_refl _) k hk
 rw [← hz] at ht
 have hR:isR (Y.getD k Rw.zero)=true:=hr _ (by rw [List.getD_eq_getElem?_getD,List.getElem?_eq_getElem hk];exact List.getElem_mem _)
 have hlen:=blkD_len hl
 obtain ⟨h1,h2,h3,h4,h5⟩:=read_ent (b:=blkD Y) (p:=172 * k) (by omega) hR ht
 obtain ⟨hn,_⟩:=isE_in hR
 have hn0:0<((Y.getD k Rw.zero).ss.getD 0 ⟨#[]⟩).size:=by
  have:=hR
  unfold isR isE nameB at this
  simp only [Bool.and_eq_true,decide_eq_true_eq] at this
  omega
 have hgN:gN ⟨blkD Y,172 * k,0⟩=(((Y.getD k Rw.zero).ss.getD 0 ⟨#[]⟩).size:Int):=by
  have:gN ⟨blkD Y,172 * k,0⟩=if (16:Int)<gq ⟨blkD Y,172 * k,0⟩ then 16 else gq ⟨blkD Y,172 * k,0⟩:=rfl
  rw [this,h1,if_neg (by omega)]
 have hnm:gNm ⟨blkD Y,172 * k,0⟩=(Y.getD k Rw.zero).ss.getD 0 ⟨#[]⟩:=by
  unfold gNm
  rw [hgN,Int.toNat_natCast,h5]
 refine ⟨?_,?_,?_,?_,?_⟩
 ·unfold entH nrm4
  rw [h1,h2,h3,h4,Int.toNat_natCast,List.drop_zero,Nat.sub_zero,h5,nm_eq rfl]
 ·unfold entG nrm4
  rw [h2,h3,h4,hnm]
 ·unfold inEd
  rw [h1,Bool.and_eq_true,decide_eq_true_iff,decide_eq_true_iff]
  omega
 ·rw [hnm]
  cases hq:(((Y.getD k Rw.zero).ss.getD 0 ⟨#[]⟩).toList==(⟨#[]⟩:ByteArray).toList) with
  |false=>rfl
  |true=>
   have:=congrArg List.length (eq_of_beq hq)
   rw [byteArray_len] at this
   have e0:(⟨#[]⟩:ByteArray).toList.length=0:=by rw [byteArray_len];rfl
   omega
 ·rw [h1];omega
theorem slot_out {Y:List Rw} (hl:Y.length≤5) {k:Nat} (hk:Y.length≤k) (h5:k<5):inEd ⟨blkD Y,172 * k,0⟩=false∧((gNm ⟨blkD Y,172 * k,0⟩).toList==(⟨#[]⟩:ByteArray).toList)=true∧gq ⟨blkD Y,172 * k,0⟩≤16:=by
 obtain ⟨z,hz⟩:=bits_blk Y
 have hlen:=blkD_len hl
 have hq:=read_none (b:=blkD Y) (p:=172 * k) (by omega) fun x hx=>by
  unfold slB at hx
  rw [hz] at hx
  obtain ⟨n,hn,rfl⟩:=List.getElem_of_mem hx
  rw [List.getElem_drop,List.getElem_append_right (by rw [entsB_len];omega),List.getElem_replicate]
 have hgN:gN ⟨blkD Y,172 * k,0⟩=0:=by
  have:gN ⟨blkD Y,172 * k,0⟩=if (16:Int)<gq ⟨blkD Y,172 * k,0⟩ then 16 else gq ⟨blkD Y,172 * k,0⟩:=rfl
  rw [this,hq,if_neg (by omega)]
 refine ⟨?_,?_,?_⟩
 ·unfold inEd;rw [hq];rfl
 ·unfold gNm;rw [hgN];simp
 ·rw [hq];omega
theorem slE_at (b:List UInt8) {k:Nat} (h:k≤5):slE b (k:Int)=⟨b,172 * k,0⟩:=by
 unfold slE
 rw [IntWalk.i64_in _ (by omega)]
 congr 1
 omega
def small (b:List UInt8):Prop:=∀ k,k<5→gq ⟨b,172 * k,0⟩≤16
theorem stE_s {b:List UInt8} (hb:b.length=128) (X:List Rw):∀ k,k≤5→(stE X (RS.new b) k).2=⟨b,172 * k,0⟩
 |0,_=>rfl
 |k+1,h=>by
  show gE (stE X (RS.new b) k).2=_
  rw [stE_s hb X k (by omega),gE_at (by omega)]
  congr 1
theorem gq_pos (s:RS):0≤gq s:=by
 unfold gq
 rw [show (5:Int)=((5:Nat):Int) from rfl,i64_num s 5 (by decide)]
 omega
theorem gN_small {s:RS} (h:gq s≤16):gN s=gq s:=by
 have:gN s=if (16:Int)<gq s then 16 else gq s:=rfl
 rw [this,if_neg (by omega)]
theorem nm_none {s:RS} (h:gq s≤16):((gNm s).toList==(⟨#[]⟩:ByteArray).toList)=!inEd s:=by
 have hl:(gNm s).toList.length=(gq s).toNat:=by
  rw [byteArray_len]
  unfold gNm
  rw [gN_small h]
  show ((gL 16 (g4 s)).take (gq s).toNat).toArray.size=_
  rw [List.size_toArray,List.length_take,gL_len]
  omega
 have e0:(⟨#[]⟩:ByteArray).toList.length=0:=by rw [byteArray_len];rfl
 have hp:=gq_pos s
 by_cases hq:gq s=0
 ·rw [hq] at hl
  have h1:=List.eq_nil_of_length_eq_zero hl
  have h2:=List.eq_nil_of_length_eq_zero e0
  rw [h1,h2]
  unfold inEd
  rw [hq];rfl
 ·have:inEd s=true:=by
   unfold inEd
   rw [Bool.and_eq_true,decide_eq_true_iff,decide_eq_true_iff];omega
  rw [this]
  cases hh:((gNm s).toList==(⟨#[]⟩:ByteArray).toList) with
  |false=>rfl
  |true=>
   have:=congrArg List.length (eq_of_beq hh)
   omega
theorem ent_eq {s:RS} (h:gq s≤16):entG s=entH s:=by
 unfold entG entH gNm
 rw [gN_small h,List.drop_zero,Nat.sub_zero]
theorem stE_stH {b:List UInt8} (hb:b.length=128) (hs:small b) (X:List Rw):∀ k,k≤5→(stE X (RS.new b) k).1=stH b X k
 |0,_=>rfl
 |k+1,h=>by
  have ih:=stE_stH hb hs X k (by omega)
  have h16:=hs k (by omega)
  unfold stE stH
  rw [stE_s hb X k (by omega),ih,slE_at b (by omega),nm_none h16,ent_eq h16]
  cases inEd ⟨b,172 * k,0⟩<;>rfl
def Good (L:List (List UInt8)):Prop:=∀ l∈L,l.length=128∧small l
theorem sto_str {L:List (List UInt8)} (h:Good L):∀ k,k≤L.length→stO L k=stR L k
 |0,_=>rfl
 |k+1,hk=>by
  obtain ⟨h1,h2⟩:=h (L.getD k []) (by rw [List.getD_eq_getElem?_getD,List.getElem?_eq_getElem (show k<L.length by omega)];exact List.getElem_mem _)
  show (stE (stO L k) (RS.new (L.getD k [])) 5).1=stH (L.getD k []) (stR L k) 5
  rw [stE_stH h1 h2 _ 5 (Nat.le_refl _),sto_str h k (by omega)]
theorem small_blk {Y:List Rw} (hl:Y.length≤5) (hr:∀ r∈Y,isR r=true):(blkD Y).length=128∧small (blkD Y):=by
 refine ⟨blkD_len hl,fun k hk=>?_⟩
 rcases Nat.lt_or_ge k Y.length with h|h
 ·exact (slot_in hl hr h).2.2.2.2
 ·exact (slot_out hl h hk).2.2
theorem okP_right {R:List Rw} (h:okP R=true):∀ r∈R,isR r=true:=fun r hr=>by
 have h2:=(Bool.and_eq_true_iff.1 h).2
 obtain ⟨j,hj,rfl⟩:=List.getElem_of_mem hr
 have:=allI_iff.1 h2 (j:Int) (by omega) (by simpa using hj)
 unfold isI at this
 rw [Int.toNat_natCast,List.getD_eq_getElem?_getD,List.getElem?_eq_getElem hj] at this
 exact this
theorem blksD_good {R:List Rw} (h:∀ r∈R,isR r=true):∀ k,Good (blksD R k)
 |0=>fun l hl=>by cases hl
 |k+1=>fun l hl=>by
  have hl:l∈blksD R k++[blkD ((R.drop (5 * k)).take 5)]:=hl
  rcases List.mem_append.1 hl with h'|h'
  ·exact blksD_good h k l h'
  ·rw [List.mem_singleton] at h'
   subst h'
   exact small_blk (List.length_take_le ..) fun r hr=>h r (List.mem_of_mem_drop (List.mem_of_mem_take hr))
theorem rbB_good (R:List Rw):Good (rbB R):=by
 unfold rbB
 rw [← okP_is]
 cases h:okP R with
 |false=>exact fun l hl=>by cases hl
 |true=>
  rw [Bool.true_and]
  cases decide ((R.length:Int)>24) with
  |true=>exact fun l hl=>by cases hl
  |false=>exact blksD_good (okP_right h) _
theorem stH_blk {Y:List Rw} (hl:Y.length≤5) (hr:∀ r∈Y,isR r=true) (X:List Rw):∀ j,j≤5→stH (blkD Y) X j=X++(Y.take j).map nrm4
 |0,_=>by simp [stH]
 |j+1,h=>by
  have ih:=stH_blk hl hr X j (by omega)
  unfold stH
  rw [slE_at _ (by omega),ih]
  rcases Nat.lt_or_ge j Y.length with hj|hj
  ·obtain ⟨h1,_,h3,_⟩:=slot_in hl hr hj
   rw [h3,h1,cond_true,List.append_assoc,List.take_add_one,List.map_append]
   congr 2
   rw [List.getD_eq_getElem?_getD,List.getElem?_eq_getElem hj];rfl
  ·obtain ⟨h1,_⟩:=slot_out hl hj (by omega)
   rw [h1,cond_false,List.take_of_length_le hj,List.take_of_length_le (by omega)]
theorem stR_blks {R:List Rw} (hr:∀ r∈R,isR r=true):∀ n k,k≤n→stR (blksD R n) k=(R.take (5 * k)).map nrm4
 |n,0,_=>rfl
 |n,k+1,h=>by
  have ih:=stR_blks hr n k (by omega)
  have hat:∀ n,k<n→(blksD R n).getD k []=blkD ((R.drop (5 * k)).take 5):=by
   intro n
   induction n with
   |zero=>intro h;omega
   |succ n ihn=>
    intro hk
    have hln:∀ m,(blksD R m).length=m:=fun m=>by
     induction m with
     |zero=>rfl
     |succ m ihm=>show (blksD R m++[_]).length=_;rw [List.length_append,ihm];rfl
    show (blksD R n++[_]).getD k []=_
    rcases Nat.lt_or_ge k n with hh|hh
    ·rw [List.getD_eq_getElem?_getD,List.getElem?_append_left (by rw [hln];exact hh),←List.getD_eq_getElem?_getD]
     exact ihn hh
    ·have:k=n:=by omega
     subst this
     rw [List.getD_eq_getElem?_getD,List.getElem?_append_right (by rw [hln];exact Nat.le_refl _),hln,Nat.sub_self];rfl
  show stH ((blksD R n).getD k []) (stR (blksD R n) k) 5=_
  rw [ih,hat n (by omega),stH_blk (List.length_take_le ..) (fun r hr'=>hr r (List.mem_of_mem_drop (List.mem_of_mem_take hr'))) _ 5 (Nat.le_refl _),←List.map_append,List.take_take,Nat.min_self]
  congr 1
  rw [Nat.mul_succ,List.take_add]
theorem back {R:List Rw} (hE:dbE R=0) (hn:R.map nrm4=R):deOk (dbB R)=true∧deR (dbB R)=R:=by
 have hok:okP R=true∧decide ((R.length:Int)>24)=false:=by
  unfold dbE at hE
  cases h:okP R with
  |false=>rw [h] at hE;cases hE
  |true=>
   cases h2:decide ((R.length:Int)>24) with
   |false=>exact ⟨rfl,rfl⟩
   |true=>rw [h,h2] at hE;cases hE
 have hB:dbB R=blksD R (nbR R):=by
  rw [dbB_is]
  unfold rbB
  rw [← okP_is,hok.1,hok.2];rfl
 have hlen:(blksD R (nbR R)).length=nbR R:=by
  have:=blks_is (okP_right hok.1) (nbR R)
  rw [← this,blksP_len]
 have hs:stR (dbB R) (dbB R).length=R:=by
  rw [hB,hlen,stR_blks (okP_right hok.1) _ _ (Nat.le_refl _),List.take_of_length_le (by unfold nbR;omega),hn]
 have hg:Good (dbB R):=by rw [dbB_is];exact rbB_good R
 have hs':stO (dbB R) (dbB R).length=R:=by rw [sto_str hg _ (Nat.le_refl _),hs]
 have h1:deOk (dbB R)=true:=by
  unfold deOk
  rw [hs',hE]
  simp
 refine ⟨h1,?_⟩
 unfold deR
 rw [h1,hs'];rfl
end Go.Proofs.Ytdenmoiaiemokaa
namespace Go.Proofs.Ytdenmoiaiemokaa
open Go.RowKit Go.ChangeShapes Go.WideShapes Go.ChangeAt
theorem args_us {w:World} {e:Env} {mem:Mem Td} (h:MemOk w (FootOf Id' w e mem) Id' w e mem) (hro:∀ n∈mem,n.mu=false) {u:Value} {b:Td} (hb:Id'.holds b w u) (hlt:∀ k,Id'.foot b w u k→k<w.heap.size):MemOk w (FootOf Id' w (e++[u]) (mem++[⟨.us b,false⟩])) Id' w (e++[u]) (mem++[⟨.us b,false⟩]):=by
 have hget:∀ (i:Nat) (v:Value) (n:En Td),(e++[u])[i]? =some v→(mem++[⟨.us b,false⟩])[i]? =some n→(e[i]? =some v∧mem[i]? =some n)∨(v=u∧n=⟨.us b,false⟩):=fun i v n hv hn=>by
  have hl:=h.len
  rcases Nat.lt_or_ge i e.length with hi|hi
  ·rw [List.getElem?_append_left hi] at hv
   rw [List.getElem?_append_left (by omega)] at hn
   exact .inl ⟨hv,hn⟩
  ·rw [List.getElem?_append_right hi] at hv
   rw [List.getElem?_append_right (by omega)] at hn
   rw [hl] at hv
   cases hq:i - mem.length with
   |zero=>rw [hq] at hv hn;simp at hv hn;exact .inr ⟨hv.symm,hn.symm⟩
   |succ q=>rw [hq] at hv;simp at hv
 have hmu:∀ (i:Nat) (v:Value) (n:En Td),(e++[u])[i]? =some v→(mem++[⟨.us b,false⟩])[i]? =some n→n.mu=false:=fun i v n hv hn=>by
  rcases hget i v n hv hn with ⟨_,h2⟩|⟨_,rfl⟩
  ·exact hro n (List.mem_of_getElem? h2)
  ·rfl
 refine ⟨by simp [h.len],fun i v n hv hn=>?_,fun i v n hv hn k hk=>?_,fun i v n hv hn hm=>?_,fun i j v x n m hv hn hm=>?_,Mod.refl _ w,fun i v n hv hn k hk=>.inr (footO.2 ⟨i,v,n,hv,hn,hk⟩)⟩
 ·rcases hget i v n hv hn with ⟨h1,h2⟩|⟨rfl,rfl⟩
  ·exact (h.holds i v n h1 h2).mono (Grows.push e u)
  ·exact hb
 ·rcases hget i v n hv hn with ⟨h1,h2⟩|⟨rfl,rfl⟩
  ·exact h.lt i v n h1 h2 k hk
  ·exact hlt k hk
 ·rw [hmu i v n hv hn] at hm;cases hm
 ·rw [hmu i v n hv hn] at hm;cases hm
theorem rs_lt {w:World} {sz n:Nat} {u:Value} {vals:List Value} (h:Rs w sz u n vals) (hn:n≠0) (hs:0<sz) {k:Nat} (hk:u.ownBlock=some k):k<w.heap.size:=by
 obtain ⟨hl,ao,cap,rfl,h2,h3,h4,h5⟩:=h
 cases ao with
 |none=>cases hk
 |some a=>
  have hlt:0<vals.length:=by rw [hl];exact Nat.mul_pos (by omega) hs
  have:=h5 a rfl 0 _ (List.getElem?_eq_getElem hlt)
  have hb:=World.block_lt_of_cell? w _ this
  rw [add_block] at hb
  cases hk
  exact hb
theorem shr_ltR {w:World} {u:Value} {sz n:Nat} {el:Nat→List CD} (h:dkHolds (.shr sz n el) w u):∀ k,Id'.foot (.ext (.shr sz n el)) w u k→k<w.heap.size:=by
 obtain ⟨hs,vals,hR,hc⟩:=h
 intro k hk
 rcases hk with ⟨hn,hk⟩|⟨i,j,c,v,g1,g2,g3,g4,g5,g6⟩
 ·exact rs_lt hR hn hs hk
 ·have hi:i * sz+j<vals.length:=by rw [hR.1];exact slot_lt g1 g2
  have hv:=List.getElem?_eq_getElem hi
  have:v=vals[i * sz+j]:=cdAt_eq g5 (cd_at hR hv)
  subst this
  have hcd:=hc i j c _ g1 g2 g3 hv
  cases c with
  |v x=>exact g4.elim
  |bs b=>
   have hb:Bs w _ b:=hcd
   have hb':Rs w 1 _ b.length (b.map bv):=hb
   exact rs_lt hb' (fun e=>g4 (List.eq_nil_of_length_eq_zero e)) (by decide) g6
  |ns b=>
   have hb:Is w _ b:=hcd
   have hl:b.length≠0:=fun e=>g4 (List.eq_nil_of_length_eq_zero e)
   have hb':Rs w 1 _ b.length (b.map (Value.int .i64)):=hb
   exact rs_lt hb' hl (by decide) g6
section
variable {H:Type} {enc:TypeId×Value→H} {W:World}
theorem read_fileR {cs:List Value} {fuel:Nat} {x:DataW H×List MemPlace} (hl:cs.length=2) (h:DataW.trod enc Try.prog W 0 (fun _=>true) true fuel 57 cs=some x):
  ∃ a b:Int,cs=[.int .i64 a,.int .i64 b]:=by
 obtain ⟨c0,c1,rfl⟩:∃ a b,cs=[a,b]:=by
  match cs,hl with
  |[a,b],_=>exact ⟨a,b,rfl⟩
 obtain ⟨xs,n,_,_,_,hx,hf⟩:=DataW.trod_struct Try.underlying57 h
 have hx4:xs.length=2:=hx
 have f0:=hf 0 _ rfl
 have f1:=hf 1 _ rfl
 rw [List.getElem?_eq_getElem (by omega)] at f0 f1
 obtain ⟨k,e0,_,_⟩:=DataW.trod_int Try.underlying3 f0
 obtain ⟨t,e1,_,_⟩:=DataW.trod_int Try.underlying3 f1
 have ci:Try.prog.cellsOf 3=1:=by kernel_rfl
 have g0:c0=.int .i64 k:=by simpa [ci] using e0
 have g1:c1=.int .i64 t:=by simpa [ci] using e1
 exact ⟨k,t,by rw [g0,g1]⟩
end
section
variable {H:Type} {enc:TypeId×Value→H} {W:World}
theorem read_fileX {cs:List Value} {fuel:Nat} {x:DataW H×List MemPlace} (hl:cs.length=2) (h:DataW.trod enc Try.prog W 0 (fun _=>true) true fuel 57 cs=some x):
  ∃ a b:Int,cs=[.int .i64 a,.int .i64 b]∧True∧True:=by
 obtain ⟨a,b,e⟩:=read_fileR hl h
 exact ⟨a,b,e,trivial,trivial⟩
theorem read_rcdo_1 {cs:List Value} {fuel:Nat} {x:DataW H×List MemPlace} (hl:cs.length=5) (h:DataW.trod enc Try.prog W 0 (fun _=>true) true fuel 63 cs=some x):
  ∃ (d:RcDo),cs=[.int .i64 d.kind,.int .i64 d.c,.int .i64 d.m,.int .i64 d.a,.int .i64 d.b]∧(True):=by
 obtain ⟨c0,c1,c2,c3,c4,rfl⟩:∃ c0 c1 c2 c3 c4,cs=[c0,c1,c2,c3,c4]:=by
  match cs,hl with
  |[c0,c1,c2,c3,c4],_=>exact ⟨c0,c1,c2,c3,c4,rfl⟩
 obtain ⟨xs,n,_,_,_,hx,hf⟩:=DataW.trod_struct Try.underlying63 h
 have hxn:xs.length=4:=hx
 have y0:Try.prog.cellsOf 3=1:=by kernel_rfl
 have y1:Try.prog.cellsOf 57=2:=by kernel_rfl
 have f0:=hf 0 _ rfl
 have f1:=hf 1 _ rfl
 have f2:=hf 2 _ rfl
 have f3:=hf 3 _ rfl
 rw [List.getElem?_eq_getElem (by omega)] at f0 f1 f2 f3
 obtain ⟨u0,e0,_,w0⟩:=DataW.trod_int Try.underlying3 f0
 have g0:c0=.int .i64 u0:=by simpa [y0,y1] using e0
 obtain ⟨u1,e1,_,w1⟩:=DataW.trod_int Try.underlying3 f1
 have g1:c1=.int .i64 u1:=by simpa [y0,y1] using e1
 obtain ⟨u2,e2,_,w2⟩:=DataW.trod_int Try.underlying3 f2
 have g2:c2=.int .i64 u2:=by simpa [y0,y1] using e2
 obtain ⟨u3_0,u3_1,e3,w3_0,w3_1⟩:=read_fileX (by simp [y0,y1]) f3
 have g3:c3=.int .i64 u3_0∧c4=.int .i64 u3_1:=by simpa [y0,y1] using e3
 obtain ⟨g3_0,g3_1⟩:=g3
 exact ⟨⟨u0,u1,u2,u3_0,u3_1⟩,by rw [g0,g1,g2,g3_0,g3_1],trivial⟩
def RcDosIs (w:World) (u:Value) (l:List RcDo):Prop:=dkHolds (.shr 5 l.length (rcEl l)) w u∧∀ d∈l,True
theorem read_rcdo_l {cs:List Value} {fuel:Nat} {x:DataW H×List MemPlace} (h:DataW.trod enc Try.prog W 0 (fun _=>true) true fuel 55 cs=some x):∃ v l,cs=[v]∧RcDosIs W v l:=by
 obtain ⟨ao,len,cap,rfl,h1,h2,h3,h4⟩:=read_slice (c:=5) Try.underlying55 (by kernel_rfl) (by decide) h
 obtain ⟨ds,hl,hd⟩:=list_of_lt (p:=fun i (d:RcDo)=>(∃ b o,ao=some ⟨b,o,none⟩∧∀ j,j<5→W.cell? ⟨b,o+i * 5+j,none⟩=[Value.int .i64 d.kind,.int .i64 d.c,.int .i64 d.m,.int .i64 d.a,.int .i64 d.b][j]?)∧(True)) len fun i hi=>by
  obtain ⟨b,o,cs',f,y,e1,e2,e3,e4⟩:=h4 i hi
  obtain ⟨d,rfl,q0⟩:=read_rcdo_1 e2 e4
  exact ⟨d,⟨b,o,e1,e3⟩,q0⟩
 refine ⟨_,ds,rfl,⟨by decide,?_⟩,fun d hd'=>?_⟩
 ·cases ao with
  |none=>
   have h0:len=0:=by have:=h3 rfl;omega
   subst h0
   have:ds=[]:=List.eq_nil_of_length_eq_zero hl
   subst this
   exact ⟨[],⟨rfl,none,cap,rfl,h1,h2,h3,fun a h=>by cases h⟩,fun i j c v hi=>absurd hi (by simp)⟩
  |some a=>
   let vals:List Value:=(List.range (len * 5)).map fun p=>(W.cell? (a.add p)).getD undef
   have hv:∀ i j,i<len→j<5→∀ (d:RcDo),ds[i]? =some d→(W.cell? (a.add (i * 5+j))=([Value.int .i64 d.kind,.int .i64 d.c,.int .i64 d.m,.int .i64 d.a,.int .i64 d.b]:List Value)[j]?→vals[i * 5+j]? =([Value.int .i64 d.kind,.int .i64 d.c,.int .i64 d.m,.int .i64 d.a,.int .i64 d.b]:List Value)[j]?):=fun i j hi hj d  hdi hc=>by
    have hp:i * 5+j<len * 5:=slot_lt hi hj
    have hjl:j<([Value.int .i64 d.kind,.int .i64 d.c,.int .i64 d.m,.int .i64 d.a,.int .i64 d.b]:List Value).length:=hj
    simp only [vals,List.getElem?_map,List.getElem?_range hp,Option.map_some,hc]
    rw [List.getElem?_eq_getElem hjl]
    rfl
   have cell:∀ i,i<len→∃ (d:RcDo),ds[i]? =some d∧(∀ j,j<5→W.cell? (a.add (i * 5+j))=([Value.int .i64 d.kind,.int .i64 d.c,.int .i64 d.m,.int .i64 d.a,.int .i64 d.b]:List Value)[j]?):=fun i hi=>by
    have hds:ds[i]? =some ds[i]:=List.getElem?_eq_getElem (by omega)
    obtain ⟨⟨b,o,e1,e2⟩,q0⟩:=hd i _ hds
    cases e1
    exact ⟨_,hds,(fun j hj=>by rw [Addr.add_mid,←Nat.add_assoc];exact e2 j hj)⟩
   refine ⟨vals,⟨by simp [vals,hl],some a,cap,by rw [hl],by rw [hl];exact h1,h2,h3,fun a' ha' p u hu=>?_⟩,fun i j c v hi hj hc hvv=>?_⟩
   ·cases ha'
    have hp:p<len * 5:=by have:=(List.getElem?_eq_some_iff.1 hu).1;simpa [vals] using this
    have hi:p / 5<len:=by omega
    have hj:p % 5<5:=Nat.mod_lt _ (by decide)
    obtain ⟨d,g1,g2⟩:=cell (p / 5) hi
    have hpe:p / 5 * 5+p % 5=p:=by omega
    have hc:=g2 (p % 5) hj
    have hv2:=hv (p / 5) (p % 5) hi hj d  g1 hc
    rw [hpe] at hc hv2
    rw [hc,←hv2,hu]
   ·rw [hl] at hi
    obtain ⟨d,g1,g2⟩:=cell i hi
    have hv2:=hv i j hi hj d  g1 (g2 j hj)
    rw [hvv] at hv2
    have hdd:ds.getD i RcDo.zero=d:=by rw [List.getD_eq_getElem?_getD,g1];rfl
    unfold rcEl at hc
    rw [hdd] at hc
    match j,hj with
    |0,_=>simp at hc hv2;subst hc;exact hv2
    |1,_=>simp at hc hv2;subst hc;exact hv2
    |2,_=>simp at hc hv2;subst hc;exact hv2
    |3,_=>simp at hc hv2;subst hc;exact hv2
    |4,_=>simp at hc hv2;subst hc;exact hv2
 ·obtain ⟨i,hi,hi'⟩:=List.getElem_of_mem hd'
  obtain ⟨_,q⟩:=hd i d (by rw [List.getElem?_eq_getElem hi,hi'])
  exact q
end
theorem recallPlays_calls (v:Value) (l:List RcDo) (W:World) (h:RcDosIs W v l):Calls Try.prog 6 #[v] W fun e w'=>e=.returned (.bool true)∧Below W.heap.size W w':=by
 have hM:=args_us (args_nil Id' W) (fun n hn=>by cases hn) (b:=.ext (.shr 5 l.length (rcEl l))) (u:=v) h.1 (shr_ltR h.1)
 refine (rplays_c l W [v] [v] hM ⟨rfl,trivial⟩).mono fun y w' ⟨u,e',h1,_,h2,h3⟩=>⟨h1.trans (congrArg _ h2),?_⟩
 have hx:Ext W w':=h3.mod.mono fun k _ hk=>by
  obtain ⟨i,_,n,_,hn,hmu,_⟩:=footE.1 hk
  cases i with
  |zero=>simp at hn;subst hn;cases hmu
  |succ i=>simp at hn
 exact hx.below
end Go.Proofs.Ytdenmoiaiemokaa
