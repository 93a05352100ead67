/- Q3 Q4 W42 W43 W44. -/
import Derived.Test.YtdenmoiaiemokaaQ2p
import Derived.Test.YtdenmoiaiemokaaF2p
set_option linter.unusedVariables false
set_option linter.unusedSimpArgs false
namespace Go.Proofs.Ytdenmoiaiemokaa
open Go.RowKit
section
variable {S:Sy Td} {W0:World} {G:Nat→Prop} {base:List (Nat×SV)} {sz:Nat} {l:List Oper}
theorem vwrap {P:Program} {s:Sem Value} (hs:Blind P s):Blind P (do pure (Next.value (← s)):Sem Next)∧∀ w r w1,(do pure (Next.value (← s)):Sem Next).run P w=.ok r w1→∃ v,r=.value v:=by
 refine ⟨blind_bind hs fun _=>blind_pure _,fun w r w1 h=>?_⟩
 rw [Sem.run_bind] at h
 cases hr:s.run P w with
 |ok a w2=>rw [hr,Result.andThen_ok,Sem.run_pure] at h;cases h;exact ⟨_,rfl⟩
 |halt x w2=>rw [hr] at h;cases h
theorem blind_not (x:Value) {P:Program}:Blind P (Op.unary .not x):=by
 cases x<;>first|exact blind_pure _|exact blind_stuck _
def okQ (o:Oper):Bool:=match o.op with
 |.move _=>true
 |.indexAddr _ _ _=>true
 |.unOp .not _ _=>true
 |_=>false
def isCallQ (o:Oper):Bool:=match o.op with
 |.call { callee:=.value _,args:=_,argTypes:=_ }=>true
 |_=>false
theorem okQ_blind {o:Oper} (h:okQ o=true) (P:Program) (ρ:Operand→Value):Blind P (execOp ρ o)∧∀ w r w1,(execOp ρ o).run P w=.ok r w1→∃ v,r=.value v:=by
 unfold okQ at h
 split at h
 ·rename_i x hop
  unfold execOp
  simp only [hop]
  exact ⟨blind_pure _,fun w r w1 h=>by rw [Sem.run_pure] at h;cases h;exact ⟨_,rfl⟩⟩
 ·rename_i t x ix hop
  unfold execOp
  simp only [hop]
  exact vwrap (blind_indexAt _ _ _)
 ·rename_i t x hop
  unfold execOp
  simp only [hop]
  exact vwrap (blind_not _)
 ·cases h
def valQ:SV→Option Value
 |.c (.one (.v x))=>some x
 |.c (.one (.kB b))=>some (.bool b)
 |.c (.one (.kI k n))=>some (.int k n)
 |_=>none
theorem valQ_is {e:Env} {s:SV} {x u:Value} (h:valQ s=some x) (hs:s.is e u):u=x:=by
 unfold valQ at h
 split at h
 ·cases h;exact hs
 ·cases h;exact hs
 ·cases h;exact hs
 ·cases h
theorem valQ_self {e:Env} {s:SV} {x:Value} (h:valQ s=some x):s.is e x:=by
 unfold valQ at h
 split at h
 ·cases h;rfl
 ·cases h;rfl
 ·cases h;rfl
 ·cases h
def rowQ (recs:List SRec) (base:List (Nat×SV)) (mem:Mem Td) (o:Oper):Option (Mem Td):=match o.op with
 |.load t x=>(match pvS (lookS recs base [] x) with
  |some (.elt i n idx off)=>(match mem[i]? with
   |some ⟨.us (.ext (.tab tb)),_⟩=>(match eqb n (tb.k+1)&&(eqb off tb.k&&eqb t 29) with
    |true=>some (mem++[⟨.us (.byt (tb.byt idx)),false⟩])
    |false=>none)
   |some ⟨.us (.ext (.shr sz _ el)),_⟩=>(match eqb n sz&&(leb (off+1) sz&&eqb t 29),(el idx.toNat)[off]? with
    |true,some (.bs l)=>some (mem++[⟨.us (.byt l),false⟩])
    |_,_=>none)
   |_=>none)
  |_=>none)
 |_=>none
def runQ (S:Sy Td) (base:List (Nat×SV)) (sz:Nat):List Oper→Nat→List SRec→Mem Td→List Prop→Option (List SRec×Mem Td×List Prop)
 |[],_,recs,mem,ps=>some (recs,mem,ps)
 |o::os,i,recs,mem,ps=>match (match o.dst with|none=>true|some t=>leb (t+1) sz),o.guard with
  |true,none=>(match rowQ recs base mem o with
   |some m'=>forceN (i+1) fun j=>runQ S base sz os j (⟨i,o.dst,[],.c (.one (.obj mem.length))⟩::recs) m' ps
   |none=>(match evalOp S recs base mem [] false o with
    |some (sv,none,qs)=>(match okQ o||(isCallQ o&&(valQ sv).isSome) with
     |true=>forceN (i+1) fun j=>runQ S base sz os j (⟨i,o.dst,[],sv⟩::recs) mem (qs++ps)
     |false=>none)
    |_=>none))
  |_,_=>none
theorem runQ_ps:∀ (os:List Oper) (i:Nat) (recs:List SRec) (mem:Mem Td) (ps:List Prop) {r:List SRec×Mem Td×List Prop},runQ S base sz os i recs mem ps=some r→∀ p∈ps,p∈r.2.2
 |[],i,recs,mem,ps,r,h,p,hp=>by
  simp only [runQ,Option.some.injEq] at h
  subst h;exact hp
 |o::os,i,recs,mem,ps,r,h,p,hp=>by
  simp only [runQ,forceN_eq] at h
  split at h
  ·split at h
   ·exact runQ_ps os _ _ _ _ h p hp
   ·split at h
    ·split at h
     ·exact runQ_ps os _ _ _ _ h p (List.mem_append_right _ hp)
     ·cases h
    ·cases h
  ·cases h
theorem runQ_dst:∀ (os:List Oper) (i:Nat) (recs:List SRec) (mem:Mem Td) (ps:List Prop) {recs':List SRec} {mem':Mem Td} {ps':List Prop},runQ S base sz os i recs mem ps=some (recs',mem',ps')→∀ r∈recs',r∈recs∨∃ o∈os,o.dst=r.dst
 |[],i,recs,mem,ps,recs',mem',ps',h,r,hr=>by
  simp only [runQ,Option.some.injEq,Prod.mk.injEq] at h
  obtain ⟨rfl,rfl,rfl⟩:=h
  exact .inl hr
 |o::os,i,recs,mem,ps,recs',mem',ps',h,r,hr=>by
  have step:∀ {sv:SV} {m2:Mem Td} {p2:List Prop},runQ S base sz os (i+1) (⟨i,o.dst,[],sv⟩::recs) m2 p2=some (recs',mem',ps')→r∈recs∨∃ o'∈o::os,o'.dst=r.dst:=fun h=>by
   rcases runQ_dst os _ _ _ _ h r hr with h|⟨o',ho',hd⟩
   ·rcases List.mem_cons.1 h with rfl|h
    ·exact .inr ⟨o,List.mem_cons_self ..,rfl⟩
    ·exact .inl h
   ·exact .inr ⟨o',List.mem_cons_of_mem _ ho',hd⟩
  simp only [runQ,forceN_eq] at h
  split at h
  ·split at h
   ·exact step h
   ·split at h
    ·split at h
     ·exact step h
     ·cases h
    ·cases h
  ·cases h
theorem call_quiet {recs:List SRec} {mem:Mem Td} {w:World} {e:Env} {o:Oper} {ρ:Operand→Value} {sv:SV} {qs:List Prop} {x:Value} (hS:SyOk S Id' W0 G) (hM:MemOk W0 G Id' w e mem) (hcl:isCallQ o=true) (hx:valQ sv=some x)
  (hρ:∀ y∈o.op.operands,OpIs recs base e y (ρ y)) (h:evalOp S recs base mem [] false o=some (sv,none,qs)) (hps:∀ p∈qs,p):
  ∃ f args,(∀ w',(execOp ρ o).run S.P w'=.ok (.enter f args) w')∧∀ w',Ext w w'→Calls S.P f args w' fun y w''=>y=.returned x∧Ext w w'':=by
 have hc:sat recs []=true:=rfl
 unfold isCallQ at hcl
 split at hcl
 ·rename_i fv xs ats hop
  unfold evalOp at h
  rw [hop] at h
  simp only at h
  split at h
  ·rename_i f fi ca us hs hus
   split at h
   ·rename_i g hg
    split at h
    ·rename_i qs' r hgr
     simp only [Option.some.injEq,Prod.mk.injEq] at h
     obtain ⟨rfl,-,rfl⟩:=h
     obtain ⟨a1,a2,k1,k2,hx'⟩:=fnS_is hs fun s hs=>lookS_is hs hc (hρ fv (by rw [hop];simp [Op.operands,Call.operands]))
     have hv:=cvs_of (ρ:=ρ) (e:=e) hc hus (fun x hx=>hρ x (by rw [hop];simp [Op.operands,Call.operands,Array.mem_toList_iff.1 hx]))
     obtain ⟨q1,q2⟩:=hS.fns f g hg _ mem _ _ none hgr hps
     have hall:=k1.ones.append (hv.append k2.ones)
     refine ⟨f,(a1++(xs.toList.map ρ++a2)).toArray,fun w'=>?_,fun w' hw=>?_⟩
     ·unfold execOp
      simp only [hop,resolve,hx',Deferred.ofValue,invoke,Sem.run_bind,Sem.run_pure,Result.andThen_ok,map_arr xs]
      rw [q1]
      simp
     ·exact (q2 w' e _ (hM.ext hw) hall).mono fun y w'' ⟨v,h1,h2,h3⟩=>⟨h1.trans (congrArg _ (valQ_is (e:=e) hx h2)),hw.trans h3⟩
    ·cases h
    ·cases h
   ·cases h
  ·cases h
 ·cases hcl
theorem runQ_seq (hS:SyOk S Id' W0 G) (hP:S.P=Try.prog) {w:World} {K:Act→Prop}:∀ (os:List Oper) (i:Nat) (recs:List SRec) (mem:Mem Td) (ps:List Prop) {recs':List SRec} {mem':Mem Td} {ps':List Prop} {a:Act} {e:Env},
  runQ S base sz os i recs mem ps=some (recs',mem',ps')→(∀ (j:Nat) (o:Oper),os[j]? =some o→l[i+j]? =some o)→RInv l recs i→FrOk recs base e a sz→MemOk W0 G Id' w e mem→(∀ p∈ps',p)→
  (∀ e' a',Grows e e'→FrOk recs' base e' a' sz→MemOk W0 G Id' w e' mem'→K a')→wpQuiet S.P l.toArray (fun w'=>Ext w w') K os a
 |[],i,recs,mem,ps,recs',mem',ps',a,e,h,hl,hI,hf,hM,hps,hend=>by
  simp only [runQ,Option.some.injEq,Prod.mk.injEq] at h
  obtain ⟨rfl,rfl,rfl⟩:=h
  exact wpQuiet_nil (hend e a (Grows.refl e) hf hM)
 |o::os,i,recs,mem,ps,recs',mem',ps',a,e,h,hl,hI,hf,hM,hps,hend=>by
  simp only [runQ,forceN_eq] at h
  split at h
  ·rename_i hd hg
   have hd:=dst_le hd
   have ho:l[i]? =some o:=by simpa using hl 0 o rfl
   have hl':∀ (j:Nat) (o':Oper),os[j]? =some o'→l[i+1+j]? =some o':=fun j o' hj=>by
    have:=hl (j+1) o' (by simpa using hj)
    rwa [show i+(j+1)=i+1+j by omega] at this
   have hw:Region.wanted o (yielded l.toArray a.tmps)=true:=by unfold Region.wanted;rw [hg]
   refine wpQuiet_step fun K' hK=>?_
   rw [if_pos hw]
   have hlt:∀ x∈([]:List (Nat×Bool)),x.1<i:=fun x hx=>by cases hx
   have next:∀ {sv:SV} {m2:Mem Td} {p2:List Prop} {v:Value} {e2:Env},runQ S base sz os (i+1) (⟨i,o.dst,[],sv⟩::recs) m2 p2=some (recs',mem',ps')→Grows e e2→sv.is e2 v→MemOk W0 G Id' w e2 m2→K' (a.put o.dst v):=fun {sv m2 p2 v e2} h hg2 hv hM2=>
    hK _ (runQ_seq hS hP os (i+1) _ _ _ h hl' (hI.cons ho (c:=[]) hlt sv) (hf.step hI hg2 (c:=[]) hlt hd ⟨fun _=>hv,fun h=>by cases h⟩) hM2 hps fun e' a' hg' hf' hM'=>hend e' a' (hg2.trans hg') hf' hM')
   split at h
   ·rename_i m' hrow
    unfold rowQ at hrow
    split at hrow
    ·rename_i t x hop
     split at hrow
     ·rename_i ix n idx off hpv
      split at hrow
      ·rename_i tb mu hm
       split at hrow
       ·rename_i hb
        simp only [Option.some.injEq] at hrow
        subst hrow
        simp only [Bool.and_eq_true] at hb
        obtain rfl:=eqb_eq.1 hb.1
        obtain rfl:=eqb_eq.1 hb.2.1
        obtain rfl:=eqb_eq.1 hb.2.2
        have hx:=lookS_is (pvS_some hpv) (c:=[]) rfl (hf.op x)
        obtain ⟨v,hv,hM2⟩:=tab_load_uni hM hm (ρ:=a.eval) hop ⟨hx,trivial⟩
        refine ⟨v,fun w' hw'=>?_,next h (Grows.push e v) ?_ hM2⟩
        ·unfold Oper.quietAt
         rw [hP,hv w' hw']
         exact ⟨rfl,rfl⟩
        ·show (e++[v])[mem.length]? =_
         rw [← hM.len,List.getElem?_append_right (Nat.le_refl _)];simp
       ·cases hrow
      ·rename_i sz' n' el mu hm
       split at hrow
       ·rename_i l' hb hel
        simp only [Option.some.injEq] at hrow
        subst hrow
        simp only [Bool.and_eq_true] at hb
        obtain rfl:=eqb_eq.1 hb.1
        have hoff:=leb_le.1 hb.2.1
        obtain rfl:=eqb_eq.1 hb.2.2
        have hx:=lookS_is (pvS_some hpv) (c:=[]) rfl (hf.op x)
        obtain ⟨v,hv,hM2⟩:=shr_load_uni hM hm hoff hel (ρ:=a.eval) hop ⟨hx,trivial⟩
        refine ⟨v,fun w' hw'=>?_,next h (Grows.push e v) ?_ hM2⟩
        ·unfold Oper.quietAt
         rw [hP,hv w' hw']
         exact ⟨rfl,rfl⟩
        ·show (e++[v])[mem.length]? =_
         rw [← hM.len,List.getElem?_append_right (Nat.le_refl _)];simp
       ·cases hrow
      ·cases hrow
     ·cases hrow
    ·cases hrow
   ·split at h
    ·rename_i sv qs hev
     split at h
     ·rename_i hk
      have hqs:∀ p∈qs,p:=fun p hp=>hps p (runQ_ps os _ _ _ _ h p (List.mem_append_left _ hp))
      cases hok:okQ o with
      |true=>
       obtain ⟨hb,hval⟩:=okQ_blind hok S.P a.eval
       have hg:=evalOp_pure hS hM hI.ok.2 rfl (fun x _=>hf.op x) hev hqs
       cases hr:(execOp a.eval o).run S.P w with
       |ok r w1=>
        obtain ⟨v,rfl⟩:=hval w r w1 hr
        rw [hr] at hg
        obtain ⟨rfl,hall⟩:=hb w _ w1 hr
        refine ⟨v,fun w' _=>?_,next h (Grows.refl e) hg.2 hM⟩
        unfold Oper.quietAt
        rw [hall w']
        exact ⟨rfl,rfl⟩
       |halt x w1=>rw [hr] at hg;exact hg.elim
      |false=>
       rw [hok,Bool.false_or,Bool.and_eq_true] at hk
       obtain ⟨x,hx⟩:=Option.isSome_iff_exists.1 hk.2
       obtain ⟨f,args,h1,h2⟩:=call_quiet hS hM hk.1 hx (fun y _=>hf.op y) hev hqs
       have hg:=evalOp_pure hS hM hI.ok.2 rfl (fun x _=>hf.op x) hev hqs
       rw [h1 w] at hg
       refine ⟨x,fun w' hw'=>?_,next h (Grows.refl e) (v:=x) ?_ hM⟩
       ·unfold Oper.quietAt
        rw [h1 w']
        exact ⟨rfl,h2 w' hw'⟩
       ·exact valQ_self hx
     ·cases h
    ·cases h
  ·cases h
end
end Go.Proofs.Ytdenmoiaiemokaa
set_option linter.unusedVariables false
set_option linter.unusedSimpArgs false
namespace Go.Proofs.Ytdenmoiaiemokaa
open Go.RowKit
def opsQ (id:Nat):Code→List Oper
 |.region i ops _=>match eqb i id with|true=>ops.toList|false=>[]
 |.seq x y=>opsQ id x++opsQ id y
 |.cond _ x y=>opsQ id x++opsQ id y
 |.block _ c=>opsQ id c
 |.loop c=>opsQ id c
 |_=>[]
section
variable {W0:World} {G:Nat→Prop} {sz:Nat}
def qG (S:Sy Td) (sz:Nat) (l:List Oper):SSt Td→Option (Tr Td):=fun s=>match runQ S s.base sz l 0 [] s.mem [] with
 |some (recs,mem,ps)=>forceN (s.ver+1) fun v=>some (leafT s (some (recs,mem,v,ps)))
 |none=>none
theorem qG_sound {Sq:Sy Td} (hS:SyOk Sq Id' W0 G) (hPq:Sq.P=Try.prog) {S:Sy Td} (hP:S.P=Try.prog) {id:Nat} {l:List Oper} (hB:Region.lexB .any l.toArray=true):FragSound S Id' W0 G sz (.region id l.toArray true) (qG Sq sz l):=by
 intro s t hg
 unfold qG at hg
 split at hg
 ·rename_i recs mem ps hr
  simp only [forceN_eq,Option.some.injEq] at hg
  subst hg
  refine ⟨leafT_after fun recs' mem' ver' ps' hx=>?_,fun K hK Q a w e hf hM hend=>?_⟩
  ·simp only [Option.some.injEq,Prod.mk.injEq] at hx
   obtain ⟨rfl,rfl,rfl,rfl⟩:=hx
   refine ⟨fun r hr'=>?_,Nat.le_succ _,fun h=>absurd h (by omega)⟩
   rcases runQ_dst l 0 [] _ _ hr r hr' with h|h
   ·cases h
   ·exact h
  ·obtain ⟨recs',mem',ver',ps',hx,hps,hK⟩:=leafT_holds hK
   simp only [Option.some.injEq,Prod.mk.injEq] at hx
   obtain ⟨rfl,rfl,rfl,rfl⟩:=hx
   rw [hP,←hPq]
   refine wp_region_quiet (C:=fun w'=>Ext w w') hS.mix hB (Ext.drew (Ext.refl w)) ?_
   exact runQ_seq (l:=l) hS hPq (K:=fun a'=>∀ w',Ext w w'→Q .normal a' w') l 0 [] s.mem [] hr (fun j o hj=>by rw [Nat.zero_add];exact hj) (RInv.nil l) hf hM hps (fun e' a' hg' hf' hM' w' hw'=>hend .normal _ e' a' w' hg' hK (flush_ok hf') (hM'.ext hw'))
 ·cases hg
end
end Go.Proofs.Ytdenmoiaiemokaa
set_option linter.unusedVariables false
set_option linter.unusedSimpArgs false
namespace Go.Proofs.Ytdenmoiaiemokaa
open Go.RowKit
end Go.Proofs.Ytdenmoiaiemokaa
set_option linter.unusedVariables false
set_option linter.unusedSimpArgs false
namespace Go.Proofs.Ytdenmoiaiemokaa
open Go.RowKit
end Go.Proofs.Ytdenmoiaiemokaa
set_option linter.unusedVariables false
namespace Go.Proofs.Ytdenmoiaiemokaa
open Go.RowKit
theorem get_at {b:List UInt8} {p:Nat} (n:Nat) (hn:n≤64) (h:p+n≤8 * b.length):(⟨b,p,0⟩:RS).get (n:Int)=⟨b,p+n,0⟩∧(⟨b,p,0⟩:RS).num (n:Int)=val (((bitsAll b).drop p).take n):=RS.get_ok rfl hn h
theorem i64_num (s:RS) (n:Nat) (hn:n≤40):IntKind.i64.wrap (s.num (n:Int):Int)=(s.num (n:Int):Int):=by
 have h:=RS.num_lt s n
 have:(2:Nat) ^ n≤2 ^ 40:=Nat.pow_le_pow_right (by decide) hn
 have e:(2:Nat) ^ 40=1099511627776:=by decide
 exact IntWalk.i64_in _ (by omega)
def slB (b:List UInt8) (p:Nat):List Bool:=(bitsAll b).drop p
theorem g4_at {b:List UInt8} {p:Nat} (h:p+172≤8 * b.length):g4 ⟨b,p,0⟩=⟨b,p+44,0⟩∧gq ⟨b,p,0⟩=(val ((slB b p).take 5):Int)∧gA ⟨b,p,0⟩=(val (((slB b p).drop 5).take 6):Int)∧gB ⟨b,p,0⟩=(val (((slB b p).drop 11).take 31):Int)∧gC ⟨b,p,0⟩=(val (((slB b p).drop 42).take 2):Int):=by
 have h5:(⟨b,p,0⟩:RS).get 5=⟨b,p+5,0⟩∧(⟨b,p,0⟩:RS).num 5=_:=get_at 5 (by decide) (by omega)
 have h6:(⟨b,p+5,0⟩:RS).get 6=⟨b,p+11,0⟩∧(⟨b,p+5,0⟩:RS).num 6=_:=get_at 6 (by decide) (by omega)
 have h31:(⟨b,p+11,0⟩:RS).get 31=⟨b,p+42,0⟩∧(⟨b,p+11,0⟩:RS).num 31=_:=get_at 31 (by decide) (by omega)
 have h2:(⟨b,p+42,0⟩:RS).get 2=⟨b,p+44,0⟩∧(⟨b,p+42,0⟩:RS).num 2=_:=get_at 2 (by decide) (by omega)
 have w5:=i64_num ⟨b,p,0⟩ 5 (by decide)
 have w6:=i64_num ⟨b,p+5,0⟩ 6 (by decide)
 have w31:=i64_num ⟨b,p+11,0⟩ 31 (by decide)
 have w2:=i64_num ⟨b,p+42,0⟩ 2 (by decide)
 refine ⟨?_,?_,?_,?_,?_⟩
 ·unfold g4
  rw [h5.1,h6.1,h31.1,h2.1]
 ·unfold gq
  exact w5.trans (congrArg _ h5.2)
 ·unfold gA
  rw [h5.1]
  refine w6.trans (congrArg _ (h6.2.trans ?_))
  unfold slB
  rw [List.drop_drop]
 ·unfold gB
  rw [h5.1,h6.1]
  refine w31.trans (congrArg _ (h31.2.trans ?_))
  unfold slB
  rw [List.drop_drop]
 ·unfold gC
  rw [h5.1,h6.1,h31.1]
  refine w2.trans (congrArg _ (h2.2.trans ?_))
  unfold slB
  rw [List.drop_drop]
theorem gS_at {b:List UInt8} {q:Nat}:∀ n,q+8 * n≤8 * b.length→gS n ⟨b,q,0⟩=⟨b,q+8 * n,0⟩
 |0,_=>rfl
 |n+1,h=>by
  rw [gS_snoc,gS_at n (by omega)]
  have:=(get_at (b:=b) (p:=q+8 * n) 8 (by decide) (by omega)).1
  exact this
theorem gL_at {b:List UInt8} {q:Nat}:∀ n,q+8 * n≤8 * b.length→gL n ⟨b,q,0⟩=(List.range n).map fun j=>UInt8.ofNat (val ((slB b (q+8 * j)).take 8))
 |0,_=>rfl
 |n+1,h=>by
  rw [gL_snoc,gL_at n (by omega),gS_at n (by omega),List.range_succ,List.map_append]
  congr 1
  have h8:=(get_at (b:=b) (p:=q+8 * n) 8 (by decide) (by omega)).2
  have hl:=RS.num_lt ⟨b,q+8 * n,0⟩ 8
  have e8:(2:Nat) ^ 8=256:=by decide
  show [gU _]=[_]
  unfold gU
  have hw:IntKind.u8.wrap ((⟨b,q+8 * n,0⟩:RS).num 8:Int)=((⟨b,q+8 * n,0⟩:RS).num 8:Int):=by
   have:((⟨b,q+8 * n,0⟩:RS).num ((8:Nat):Int))<256:=by rw [← e8];exact hl
   have e:(⟨b,q+8 * n,0⟩:RS).num ((8:Nat):Int)=(⟨b,q+8 * n,0⟩:RS).num 8:=rfl
   rw [IntKind.wrap_u8];omega
  rw [hw,Int.toNat_natCast]
  congr 2
theorem gE_at {b:List UInt8} {p:Nat} (h:p+172≤8 * b.length):gE ⟨b,p,0⟩=⟨b,p+172,0⟩:=by
 unfold gE
 rw [(g4_at h).1,gS_at 16 (by omega)]
theorem nmB_app (l:List Bool) (nm:ByteArray):∀ k,nmB l nm k=l++nmB [] nm k
 |0=>(List.append_nil l).symm
 |k+1=>by simp only [nmB];rw [nmB_app l nm k,List.append_assoc]
def entF (r:Rw):List Bool:=entB [] r
theorem entB_app (l:List Bool) (r:Rw):entB l r=l++entF r:=by
 unfold entF entB
 rw [nmB_app,nmB_app (_++_)]
 simp only [List.append_assoc,List.nil_append]
theorem entsB_at (Y:List Rw) (t:List Bool):∀ k,k≤Y.length→∀ j,j<k→∃ t',(entsB Y k++t).drop (172 * j)=entF (Y.getD j Rw.zero)++t'
 |0,_,j,hj=>absurd hj (Nat.not_lt_zero j)
 |k+1,hk,j,hj=>by
  have hl:=entsB_len Y k
  rcases Nat.lt_or_ge j k with h|h
  ·obtain ⟨t',ht⟩:=entsB_at Y (entF (Y.getD k Rw.zero)++t) k (by omega) j h
   refine ⟨t',?_⟩
   show (entB (entsB Y k) (Y.getD k Rw.zero)++t).drop _=_
   rw [entB_app,List.append_assoc]
   exact ht
  ·have:j=k:=by omega
   subst this
   refine ⟨t,?_⟩
   show (entB (entsB Y j) (Y.getD j Rw.zero)++t).drop _=_
   rw [entB_app,List.append_assoc,List.drop_left' hl]
theorem nmB_at (nm:ByteArray) (t:List Bool):∀ k j,j<k→∃ t',(nmB [] nm k++t).drop (8 * j)=bitsOf (IntKind.u64.wrap (chI nm (j:Int))).toNat 8++t'
 |0,j,hj=>absurd hj (Nat.not_lt_zero j)
 |k+1,j,hj=>by
  have hl:=nmB_len [] nm k
  rw [List.length_nil,Nat.zero_add] at hl
  rcases Nat.lt_or_ge j k with h|h
  ·obtain ⟨t',ht⟩:=nmB_at nm (bitsOf (IntKind.u64.wrap (chI nm (k:Int))).toNat 8++t) k j h
   refine ⟨t',?_⟩
   show (nmB [] nm k++_++t).drop _=_
   rw [List.append_assoc]
   exact ht
  ·have:j=k:=by omega
   subst this
   refine ⟨t,?_⟩
   show (nmB [] nm j++_++t).drop _=_
   rw [List.append_assoc,List.drop_left' hl]
theorem take_len {l t:List Bool} {n:Nat} (h:l.length=n):(l++t).take n=l:=List.take_left' h
theorem entF_parts (r:Rw):entF r=bitsOf (IntKind.u64.wrap ((r.ss.getD 0 ⟨#[]⟩).size:Int)).toNat 5++(bitsOf (IntKind.u64.wrap (r.is.getD 0 0)).toNat 6++(bitsOf (IntKind.u64.wrap (r.is.getD 1 0)).toNat 31++(bitsOf (IntKind.u64.wrap (r.is.getD 2 0)).toNat 2++nmB [] (r.ss.getD 0 ⟨#[]⟩) 16))):=by
 unfold entF entB
 rw [nmB_app]
 simp only [List.append_assoc,List.nil_append]
theorem u64_nat {x:Int} {m:Nat} (h:0≤x∧x<(m:Int)) (hm:m≤18446744073709551616):(IntKind.u64.wrap x).toNat=x.toNat:=by rw [u64w_id (by omega)]
theorem read_ent {b:List UInt8} {p:Nat} {r:Rw} {t:List Bool} (h:p+172≤8 * b.length) (hr:isR r=true) (hB:slB b p=entF r++t):
  gq ⟨b,p,0⟩=((r.ss.getD 0 ⟨#[]⟩).size:Int)∧gA ⟨b,p,0⟩=r.is.getD 0 0∧gB ⟨b,p,0⟩=r.is.getD 1 0∧gC ⟨b,p,0⟩=r.is.getD 2 0∧(gL 16 (g4 ⟨b,p,0⟩)).take (r.ss.getD 0 ⟨#[]⟩).size=(r.ss.getD 0 ⟨#[]⟩).data.toList:=by
 obtain ⟨hn,ha,hb,hc⟩:=isE_in hr
 obtain ⟨k0,k1,k2,k3,k4⟩:=g4_at h
 rw [entF_parts] at hB
 simp only [List.append_assoc] at hB
 have hsz:(r.ss.getD 0 ⟨#[]⟩).data.toList.length=(r.ss.getD 0 ⟨#[]⟩).size:=Array.length_toList
 refine ⟨?_,?_,?_,?_,?_⟩
 ·rw [k1,hB,take_len (bitsOf_length _ _),u64_nat (m:=17) ⟨by omega,by omega⟩ (by decide),val_bits_id (by rw [Int.toNat_natCast];omega),Int.toNat_natCast]
 ·rw [k2,hB,List.drop_left' (bitsOf_length _ _),take_len (bitsOf_length _ _),u64_nat (m:=41) ⟨by omega,by omega⟩ (by decide),val_bits_id (by show _<64;omega)]
  omega
 ·have e:∀ l:List Bool,l.drop 11=(l.drop 5).drop 6:=fun l=>by rw [List.drop_drop]
  rw [k3,hB,e,List.drop_left' (bitsOf_length _ _),List.drop_left' (bitsOf_length _ _),take_len (bitsOf_length _ _),u64_nat (m:=2147483648) ⟨by omega,by omega⟩ (by decide),val_bits_id (by show _<2147483648;omega)]
  omega
 ·have e:∀ l:List Bool,l.drop 42=((l.drop 5).drop 6).drop 31:=fun l=>by rw [List.drop_drop,List.drop_drop]
  rw [k4,hB,e,List.drop_left' (bitsOf_length _ _),List.drop_left' (bitsOf_length _ _),List.drop_left' (bitsOf_length _ _),take_len (bitsOf_length _ _),u64_nat (m:=3) ⟨by omega,by omega⟩ (by decide),val_bits_id (by show _<4;omega)]
  omega
 ·rw [k0,gL_at 16 (by omega)]
  apply List.ext_getElem
  ·rw [List.length_take,List.length_map,List.length_range,hsz];omega
  ·intro j h1 h2
   rw [List.getElem_take,List.getElem_map,List.getElem_range]
   have hj:j<16:=by rw [hsz] at h2;omega
   have e:slB b (p+44+8 * j)=((((slB b p).drop 5).drop 6).drop 31 |>.drop 2).drop (8 * j):=by
    unfold slB
    rw [List.drop_drop,List.drop_drop,List.drop_drop,List.drop_drop,List.drop_drop]
    congr 1
    omega
   obtain ⟨t',ht⟩:=nmB_at (r.ss.getD 0 ⟨#[]⟩) t 16 j hj
   have hcj:chI (r.ss.getD 0 ⟨#[]⟩) (j:Int)=(((r.ss.getD 0 ⟨#[]⟩).data.toList[j]).toNat:Int):=by
    unfold chI
    rw [decide_eq_true (by rw [hsz] at h2;omega),cond_true,Int.toNat_natCast,List.getD_eq_getElem?_getD,List.getElem?_eq_getElem h2];rfl
   rw [e,hB,List.drop_left' (bitsOf_length _ _),List.drop_left' (bitsOf_length _ _),List.drop_left' (bitsOf_length _ _),List.drop_left' (bitsOf_length _ _),ht,take_len (bitsOf_length _ _),hcj]
   have hlt:=((r.ss.getD 0 ⟨#[]⟩).data.toList[j]).toNat_lt
   rw [u64_nat (m:=256) ⟨by omega,by omega⟩ (by decide),Int.toNat_natCast,val_bits_id (by show _<256;omega)]
   simp
theorem val_zero:∀ l:List Bool,(∀ x∈l,x=false)→val l=0
 |[],_=>rfl
 |a::l,h=>by
  rw [val_cons,h a (List.mem_cons_self ..),val_zero l fun x hx=>h x (List.mem_cons_of_mem _ hx)];simp
theorem read_none {b:List UInt8} {p:Nat} (h:p+172≤8 * b.length) (hB:∀ x∈slB b p,x=false):gq ⟨b,p,0⟩=0:=by
 rw [(g4_at h).2.1,val_zero _ fun x hx=>hB x (List.mem_of_mem_take hx)];rfl
theorem bits_blk (Y:List Rw):∃ k,bitsAll (blkD Y)=entsB Y Y.length++List.replicate k false:=by
 obtain ⟨k,_,h⟩:=bitsAll_packed _ (entsB Y Y.length) (Nat.le_refl _)
 have hz:∀ n,bitsAll (List.replicate n 0)=List.replicate (8 * n) false:=fun n=>by
  induction n with
  |zero=>rfl
  |succ n ih=>
   rw [List.replicate_succ]
   show bitsOf 0 8++bitsAll _=_
   rw [ih,Nat.mul_succ,Nat.add_comm,←List.replicate_append_replicate];rfl
 refine ⟨k+8 * (128 - (packed (entsB Y Y.length)).length),?_⟩
 unfold blkD padL
 rw [bitsAll_append,h,hz,List.append_assoc,List.replicate_append_replicate]
theorem blkD_len {Y:List Rw} (hl:Y.length≤5):(blkD Y).length=128:=by
 unfold blkD padL
 rw [List.length_append,List.length_replicate,packed_length,entsB_len]
 omega
theorem nm_eq {nm:ByteArray} {l:List UInt8} (h:l=nm.data.toList):(⟨l.toArray⟩:ByteArray)=nm:=by
 subst h
 simp
theorem slot_in {Y:List Rw} (hl:Y.length≤5) (hr:∀ r∈Y,isR r=true) {k:Nat} (hk:k<Y.length):entH ⟨blkD Y,172 * k,0⟩=nrm4 (Y.getD k Rw.zero)∧entG ⟨blkD Y,172 * k,0⟩=nrm4 (Y.getD k Rw.zero)∧inE ⟨blkD Y,172 * k,0⟩=true∧((gNm ⟨blkD Y,172 * k,0⟩).toList==(⟨#[]⟩:ByteArray).toList)=false∧gq ⟨blkD Y,172 * k,0⟩≤16:=by
 obtain ⟨z,hz⟩:=bits_blk Y
 obtain ⟨t',ht⟩:=entsB_at Y (List.replicate z false) Y.length (Nat.le_refl _) k hk
 rw [← hz] at ht
 have hR:isR (Y.getD k Rw.zero)=true:=hr _ (by rw [List.getD_eq_getElem?_getD,List.getElem?_eq_getElem hk];exact List.getElem_mem _)
 have hlen:=blkD_len hl
 obtain ⟨h1,h2,h3,h4,h5⟩:=read_ent (b:=blkD Y) (p:=172 * k) (by omega) hR ht
 obtain ⟨hn,_⟩:=isE_in hR
 have hn0:0<((Y.getD k Rw.zero).ss.getD 0 ⟨#[]⟩).size:=by
  have:=hR
  unfold isR isE nameB at this
  simp only [Bool.and_eq_true,decide_eq_true_eq] at this
  omega
 have hgN:gN ⟨blkD Y,172 * k,0⟩=(((Y.getD k Rw.zero).ss.getD 0 ⟨#[]⟩).size:Int):=by
  have:gN ⟨blkD Y,172 * k,0⟩=if (16:Int)<gq ⟨blkD Y,172 * k,0⟩ then 16 else gq ⟨blkD Y,172 * k,0⟩:=rfl
  rw [this,h1,if_neg (by omega)]
 have hnm:gNm ⟨blkD Y,172 * k,0⟩=(Y.getD k Rw.zero).ss.getD 0 ⟨#[]⟩:=by
  unfold gNm
  rw [hgN,Int.toNat_natCast,h5]
 refine ⟨?_,?_,?_,?_,?_⟩
 ·unfold entH nrm4
  rw [h1,h2,h3,h4,Int.toNat_natCast,List.drop_zero,Nat.sub_zero,h5,nm_eq rfl]
 ·unfold entG nrm4
  rw [h2,h3,h4,hnm]
 ·unfold inE
  rw [h1,Bool.and_eq_true,decide_eq_true_iff,decide_eq_true_iff]
  omega
 ·rw [hnm]
  cases hq:(((Y.getD k Rw.zero).ss.getD 0 ⟨#[]⟩).toList==(⟨#[]⟩:ByteArray).toList) with
  |false=>rfl
  |true=>
   have:=congrArg List.length (eq_of_beq hq)
   rw [byteArray_len] at this
   have e0:(⟨#[]⟩:ByteArray).toList.length=0:=by rw [byteArray_len];rfl
   omega
 ·rw [h1];omega
theorem slot_out {Y:List Rw} (hl:Y.length≤5) {k:Nat} (hk:Y.length≤k) (h5:k<5):inE ⟨blkD Y,172 * k,0⟩=false∧((gNm ⟨blkD Y,172 * k,0⟩).toList==(⟨#[]⟩:ByteArray).toList)=true∧gq ⟨blkD Y,172 * k,0⟩≤16:=by
 obtain ⟨z,hz⟩:=bits_blk Y
 have hlen:=blkD_len hl
 have hq:=read_none (b:=blkD Y) (p:=172 * k) (by omega) fun x hx=>by
  unfold slB at hx
  rw [hz] at hx
  obtain ⟨n,hn,rfl⟩:=List.getElem_of_mem hx
  rw [List.getElem_drop,List.getElem_append_right (by rw [entsB_len];omega),List.getElem_replicate]
 have hgN:gN ⟨blkD Y,172 * k,0⟩=0:=by
  have:gN ⟨blkD Y,172 * k,0⟩=if (16:Int)<gq ⟨blkD Y,172 * k,0⟩ then 16 else gq ⟨blkD Y,172 * k,0⟩:=rfl
  rw [this,hq,if_neg (by omega)]
 refine ⟨?_,?_,?_⟩
 ·unfold inE;rw [hq];rfl
 ·unfold gNm;rw [hgN];simp
 ·rw [hq];omega
end Go.Proofs.Ytdenmoiaiemokaa
