/- Q3 Q4 W42 W43 W44 W45 W46 W47 WRd W48. -/
import Derived.Test.YtdenmoiaiemokaaQ2p
import Derived.Test.YtdenmoiaiemokaaF2p
import Derived.Test.YtdenmoiaiemokaaOpenp
set_option linter.unusedVariables false
set_option linter.unusedSimpArgs false
namespace Go.Proofs.Ytdenmoiaiemokaa
open Go.RowKit
section
variable {S:Sy Td} {W0:World} {G:Nat→Prop} {base:List (Nat×SV)} {sz:Nat} {l:List Oper}
theorem vwrap {P:Program} {s:Sem Value} (hs:Blind P s):Blind P (do pure (Next.value (← s)):Sem Next)∧∀ w r w1,(do pure (Next.value (← s)):Sem Next).run P w=.ok r w1→∃ v,r=.value v:=by
 refine ⟨blind_bind hs fun _=>blind_pure _,fun w r w1 h=>?_⟩
 rw [Sem.run_bind] at h
 cases hr:s.run P w with
 |ok a w2=>rw [hr,Result.andThen_ok,Sem.run_pure] at h;cases h;exact ⟨_,rfl⟩
 |halt x w2=>rw [hr] at h;cases h
theorem blind_not (x:Value) {P:Program}:Blind P (Op.unary .not x):=by
 cases x<;>first|exact blind_pure _|exact blind_stuck _
def okQ (o:Oper):Bool:=match o.op with
 |.move _=>true
 |.indexAddr _ _ _=>true
 |.unOp .not _ _=>true
 |_=>false
def isCallQ (o:Oper):Bool:=match o.op with
 |.call { callee:=.value _,args:=_,argTypes:=_ }=>true
 |_=>false
theorem okQ_blind {o:Oper} (h:okQ o=true) (P:Program) (ρ:Operand→Value):Blind P (execOp ρ o)∧∀ w r w1,(execOp ρ o).run P w=.ok r w1→∃ v,r=.value v:=by
 unfold okQ at h
 split at h
 ·rename_i x hop
  unfold execOp
  simp only [hop]
  exact ⟨blind_pure _,fun w r w1 h=>by rw [Sem.run_pure] at h;cases h;exact ⟨_,rfl⟩⟩
 ·rename_i t x ix hop
  unfold execOp
  simp only [hop]
  exact vwrap (blind_indexAt _ _ _)
 ·rename_i t x hop
  unfold execOp
  simp only [hop]
  exact vwrap (blind_not _)
 ·cases h
def valQ:SV→Option Value
 |.c (.one (.v x))=>some x
 |.c (.one (.kB b))=>some (.bool b)
 |.c (.one (.kI k n))=>some (.int k n)
 |_=>none
theorem valQ_is {e:Env} {s:SV} {x u:Value} (h:valQ s=some x) (hs:s.is e u):u=x:=by
 unfold valQ at h
 split at h
 ·cases h;exact hs
 ·cases h;exact hs
 ·cases h;exact hs
 ·cases h
theorem valQ_self {e:Env} {s:SV} {x:Value} (h:valQ s=some x):s.is e x:=by
 unfold valQ at h
 split at h
 ·cases h;rfl
 ·cases h;rfl
 ·cases h;rfl
 ·cases h
def rowQ (recs:List SRec) (base:List (Nat×SV)) (mem:Mem Td) (o:Oper):Option (Mem Td):=match o.op with
 |.load t x=>(match pvS (lookS recs base [] x) with
  |some (.elt i n idx off)=>(match mem[i]? with
   |some ⟨.us (.ext (.tab tb)),_⟩=>(match eqb n (tb.k+1)&&(eqb off tb.k&&eqb t 29) with
    |true=>some (mem++[⟨.us (.byt (tb.byt idx)),false⟩])
    |false=>none)
   |some ⟨.us (.ext (.shr sz _ el)),_⟩=>(match eqb n sz&&(leb (off+1) sz&&eqb t 29),(el idx.toNat)[off]? with
    |true,some (.bs l)=>some (mem++[⟨.us (.byt l),false⟩])
    |_,_=>none)
   |_=>none)
  |_=>none)
 |_=>none
def runQ (S:Sy Td) (base:List (Nat×SV)) (sz:Nat):List Oper→Nat→List SRec→Mem Td→List Prop→Option (List SRec×Mem Td×List Prop)
 |[],_,recs,mem,ps=>some (recs,mem,ps)
 |o::os,i,recs,mem,ps=>match (match o.dst with|none=>true|some t=>leb (t+1) sz),o.guard with
  |true,none=>(match rowQ recs base mem o with
   |some m'=>forceN (i+1) fun j=>runQ S base sz os j (⟨i,o.dst,[],.c (.one (.obj mem.length))⟩::recs) m' ps
   |none=>(match evalOp S recs base mem [] false o with
    |some (sv,none,qs)=>(match okQ o||(isCallQ o&&(valQ sv).isSome) with
     |true=>forceN (i+1) fun j=>runQ S base sz os j (⟨i,o.dst,[],sv⟩::recs) mem (qs++ps)
     |false=>none)
    |_=>none))
  |_,_=>none
theorem runQ_ps:∀ (os:List Oper) (i:Nat) (recs:List SRec) (mem:Mem Td) (ps:List Prop) {r:List SRec×Mem Td×List Prop},runQ S base sz os i recs mem ps=some r→∀ p∈ps,p∈r.2.2
 |[],i,recs,mem,ps,r,h,p,hp=>by
  simp only [runQ,Option.some.injEq] at h
  subst h;exact hp
 |o::os,i,recs,mem,ps,r,h,p,hp=>by
  simp only [runQ,forceN_eq] at h
  split at h
  ·split at h
   ·exact runQ_ps os _ _ _ _ h p hp
   ·split at h
    ·split at h
     ·exact runQ_ps os _ _ _ _ h p (List.mem_append_right _ hp)
     ·cases h
    ·cases h
  ·cases h
theorem runQ_dst:∀ (os:List Oper) (i:Nat) (recs:List SRec) (mem:Mem Td) (ps:List Prop) {recs':List SRec} {mem':Mem Td} {ps':List Prop},runQ S base sz os i recs mem ps=some (recs',mem',ps')→∀ r∈recs',r∈recs∨∃ o∈os,o.dst=r.dst
 |[],i,recs,mem,ps,recs',mem',ps',h,r,hr=>by
  simp only [runQ,Option.some.injEq,Prod.mk.injEq] at h
  obtain ⟨rfl,rfl,rfl⟩:=h
  exact .inl hr
 |o::os,i,recs,mem,ps,recs',mem',ps',h,r,hr=>by
  have step:∀ {sv:SV} {m2:Mem Td} {p2:List Prop},runQ S base sz os (i+1) (⟨i,o.dst,[],sv⟩::recs) m2 p2=some (recs',mem',ps')→r∈recs∨∃ o'∈o::os,o'.dst=r.dst:=fun h=>by
   rcases runQ_dst os _ _ _ _ h r hr with h|⟨o',ho',hd⟩
   ·rcases List.mem_cons.1 h with rfl|h
    ·exact .inr ⟨o,List.mem_cons_self ..,rfl⟩
    ·exact .inl h
   ·exact .inr ⟨o',List.mem_cons_of_mem _ ho',hd⟩
  simp only [runQ,forceN_eq] at h
  split at h
  ·split at h
   ·exact step h
   ·split at h
    ·split at h
     ·exact step h
     ·cases h
    ·cases h
  ·cases h
theorem call_quiet {recs:List SRec} {mem:Mem Td} {w:World} {e:Env} {o:Oper} {ρ:Operand→Value} {sv:SV} {qs:List Prop} {x:Value} (hS:SyOk S Id' W0 G) (hM:MemOk W0 G Id' w e mem) (hcl:isCallQ o=true) (hx:valQ sv=some x)
  (hρ:∀ y∈o.op.operands,OpIs recs base e y (ρ y)) (h:evalOp S recs base mem [] false o=some (sv,none,qs)) (hps:∀ p∈qs,p):
  ∃ f args,(∀ w',(execOp ρ o).run S.P w'=.ok (.enter f args) w')∧∀ w',Ext w w'→Calls S.P f args w' fun y w''=>y=.returned x∧Ext w w'':=by
 have hc:sat recs []=true:=rfl
 unfold isCallQ at hcl
 split at hcl
 ·rename_i fv xs ats hop
  unfold evalOp at h
  rw [hop] at h
  simp only at h
  split at h
  ·rename_i f fi ca us hs hus
   split at h
   ·rename_i g hg
    split at h
    ·rename_i qs' r hgr
     simp only [Option.some.injEq,Prod.mk.injEq] at h
     obtain ⟨rfl,-,rfl⟩:=h
     obtain ⟨a1,a2,k1,k2,hx'⟩:=fnS_is hs fun s hs=>lookS_is hs hc (hρ fv (by rw [hop];simp [Op.operands,Call.operands]))
     have hv:=cvs_of (ρ:=ρ) (e:=e) hc hus (fun x hx=>hρ x (by rw [hop];simp [Op.operands,Call.operands,Array.mem_toList_iff.1 hx]))
     obtain ⟨q1,q2⟩:=hS.fns f g hg _ mem _ _ none hgr hps
     have hall:=k1.ones.append (hv.append k2.ones)
     refine ⟨f,(a1++(xs.toList.map ρ++a2)).toArray,fun w'=>?_,fun w' hw=>?_⟩
     ·unfold execOp
      simp only [hop,resolve,hx',Deferred.ofValue,invoke,Sem.run_bind,Sem.run_pure,Result.andThen_ok,map_arr xs]
      rw [q1]
      simp
     ·exact (q2 w' e _ (hM.ext hw) hall).mono fun y w'' ⟨v,h1,h2,h3⟩=>⟨h1.trans (congrArg _ (valQ_is (e:=e) hx h2)),hw.trans h3⟩
    ·cases h
    ·cases h
   ·cases h
  ·cases h
 ·cases hcl
theorem runQ_seq (hS:SyOk S Id' W0 G) (hP:S.P=Try.prog) {w:World} {K:Act→Prop}:∀ (os:List Oper) (i:Nat) (recs:List SRec) (mem:Mem Td) (ps:List Prop) {recs':List SRec} {mem':Mem Td} {ps':List Prop} {a:Act} {e:Env},
  runQ S base sz os i recs mem ps=some (recs',mem',ps')→(∀ (j:Nat) (o:Oper),os[j]? =some o→l[i+j]? =some o)→RInv l recs i→FrOk recs base e a sz→MemOk W0 G Id' w e mem→(∀ p∈ps',p)→
  (∀ e' a',Grows e e'→FrOk recs' base e' a' sz→MemOk W0 G Id' w e' mem'→K a')→wpQuiet S.P l.toArray (fun w'=>Ext w w') K os a
 |[],i,recs,mem,ps,recs',mem',ps',a,e,h,hl,hI,hf,hM,hps,hend=>by
  simp only [runQ,Option.some.injEq,Prod.mk.injEq] at h
  obtain ⟨rfl,rfl,rfl⟩:=h
  exact wpQuiet_nil (hend e a (Grows.refl e) hf hM)
 |o::os,i,recs,mem,ps,recs',mem',ps',a,e,h,hl,hI,hf,hM,hps,hend=>by
  simp only [runQ,forceN_eq] at h
  split at h
  ·rename_i hd hg
   have hd:=dst_le hd
   have ho:l[i]? =some o:=by simpa using hl 0 o rfl
   have hl':∀ (j:Nat) (o':Oper),os[j]? =some o'→l[i+1+j]? =some o':=fun j o' hj=>by
    have:=hl (j+1) o' (by simpa using hj)
    rwa [show i+(j+1)=i+1+j by omega] at this
   have hw:Region.wanted o (yielded l.toArray a.tmps)=true:=by unfold Region.wanted;rw [hg]
   refine wpQuiet_step fun K' hK=>?_
   rw [if_pos hw]
   have hlt:∀ x∈([]:List (Nat×Bool)),x.1<i:=fun x hx=>by cases hx
   have next:∀ {sv:SV} {m2:Mem Td} {p2:List Prop} {v:Value} {e2:Env},runQ S base sz os (i+1) (⟨i,o.dst,[],sv⟩::recs) m2 p2=some (recs',mem',ps')→Grows e e2→sv.is e2 v→MemOk W0 G Id' w e2 m2→K' (a.put o.dst v):=fun {sv m2 p2 v e2} h hg2 hv hM2=>
    hK _ (runQ_seq hS hP os (i+1) _ _ _ h hl' (hI.cons ho (c:=[]) hlt sv) (hf.step hI hg2 (c:=[]) hlt hd ⟨fun _=>hv,fun h=>by cases h⟩) hM2 hps fun e' a' hg' hf' hM'=>hend e' a' (hg2.trans hg') hf' hM')
   split at h
   ·rename_i m' hrow
    unfold rowQ at hrow
    split at hrow
    ·rename_i t x hop
     split at hrow
     ·rename_i ix n idx off hpv
      split at hrow
      ·rename_i tb mu hm
       split at hrow
       ·rename_i hb
        simp only [Option.some.injEq] at hrow
        subst hrow
        simp only [Bool.and_eq_true] at hb
        obtain rfl:=eqb_eq.1 hb.1
        obtain rfl:=eqb_eq.1 hb.2.1
        obtain rfl:=eqb_eq.1 hb.2.2
        have hx:=lookS_is (pvS_some hpv) (c:=[]) rfl (hf.op x)
        obtain ⟨v,hv,hM2⟩:=tab_load_uni hM hm (ρ:=a.eval) hop ⟨hx,trivial⟩
        refine ⟨v,fun w' hw'=>?_,next h (Grows.push e v) ?_ hM2⟩
        ·unfold Oper.quietAt
         rw [hP,hv w' hw']
         exact ⟨rfl,rfl⟩
        ·show (e++[v])[mem.length]? =_
         rw [← hM.len,List.getElem?_append_right (Nat.le_refl _)];simp
       ·cases hrow
      ·rename_i sz' n' el mu hm
       split at hrow
       ·rename_i l' hb hel
        simp only [Option.some.injEq] at hrow
        subst hrow
        simp only [Bool.and_eq_true] at hb
        obtain rfl:=eqb_eq.1 hb.1
        have hoff:=leb_le.1 hb.2.1
        obtain rfl:=eqb_eq.1 hb.2.2
        have hx:=lookS_is (pvS_some hpv) (c:=[]) rfl (hf.op x)
        obtain ⟨v,hv,hM2⟩:=shr_load_uni hM hm hoff hel (ρ:=a.eval) hop ⟨hx,trivial⟩
        refine ⟨v,fun w' hw'=>?_,next h (Grows.push e v) ?_ hM2⟩
        ·unfold Oper.quietAt
         rw [hP,hv w' hw']
         exact ⟨rfl,rfl⟩
        ·show (e++[v])[mem.length]? =_
         rw [← hM.len,List.getElem?_append_right (Nat.le_refl _)];simp
       ·cases hrow
      ·cases hrow
     ·cases hrow
    ·cases hrow
   ·split at h
    ·rename_i sv qs hev
     split at h
     ·rename_i hk
      have hqs:∀ p∈qs,p:=fun p hp=>hps p (runQ_ps os _ _ _ _ h p (List.mem_append_left _ hp))
      cases hok:okQ o with
      |true=>
       obtain ⟨hb,hval⟩:=okQ_blind hok S.P a.eval
       have hg:=evalOp_pure hS hM hI.ok.2 rfl (fun x _=>hf.op x) hev hqs
       cases hr:(execOp a.eval o).run S.P w with
       |ok r w1=>
        obtain ⟨v,rfl⟩:=hval w r w1 hr
        rw [hr] at hg
        obtain ⟨rfl,hall⟩:=hb w _ w1 hr
        refine ⟨v,fun w' _=>?_,next h (Grows.refl e) hg.2 hM⟩
        unfold Oper.quietAt
        rw [hall w']
        exact ⟨rfl,rfl⟩
       |halt x w1=>rw [hr] at hg;exact hg.elim
      |false=>
       rw [hok,Bool.false_or,Bool.and_eq_true] at hk
       obtain ⟨x,hx⟩:=Option.isSome_iff_exists.1 hk.2
       obtain ⟨f,args,h1,h2⟩:=call_quiet hS hM hk.1 hx (fun y _=>hf.op y) hev hqs
       have hg:=evalOp_pure hS hM hI.ok.2 rfl (fun x _=>hf.op x) hev hqs
       rw [h1 w] at hg
       refine ⟨x,fun w' hw'=>?_,next h (Grows.refl e) (v:=x) ?_ hM⟩
       ·unfold Oper.quietAt
        rw [h1 w']
        exact ⟨rfl,h2 w' hw'⟩
       ·exact valQ_self hx
     ·cases h
    ·cases h
  ·cases h
end
end Go.Proofs.Ytdenmoiaiemokaa
set_option linter.unusedVariables false
set_option linter.unusedSimpArgs false
namespace Go.Proofs.Ytdenmoiaiemokaa
open Go.RowKit
def opsQ (id:Nat):Code→List Oper
 |.region i ops _=>match eqb i id with|true=>ops.toList|false=>[]
 |.seq x y=>opsQ id x++opsQ id y
 |.cond _ x y=>opsQ id x++opsQ id y
 |.block _ c=>opsQ id c
 |.loop c=>opsQ id c
 |_=>[]
section
variable {W0:World} {G:Nat→Prop} {sz:Nat}
def qG (S:Sy Td) (sz:Nat) (l:List Oper):SSt Td→Option (Tr Td):=fun s=>match runQ S s.base sz l 0 [] s.mem [] with
 |some (recs,mem,ps)=>forceN (s.ver+1) fun v=>some (leafT s (some (recs,mem,v,ps)))
 |none=>none
theorem qG_sound {Sq:Sy Td} (hS:SyOk Sq Id' W0 G) (hPq:Sq.P=Try.prog) {S:Sy Td} (hP:S.P=Try.prog) {id:Nat} {l:List Oper} (hB:Region.lexB .any l.toArray=true):FragSound S Id' W0 G sz (.region id l.toArray true) (qG Sq sz l):=by
 intro s t hg
 unfold qG at hg
 split at hg
 ·rename_i recs mem ps hr
  simp only [forceN_eq,Option.some.injEq] at hg
  subst hg
  refine ⟨leafT_after fun recs' mem' ver' ps' hx=>?_,fun K hK Q a w e hf hM hend=>?_⟩
  ·simp only [Option.some.injEq,Prod.mk.injEq] at hx
   obtain ⟨rfl,rfl,rfl,rfl⟩:=hx
   refine ⟨fun r hr'=>?_,Nat.le_succ _,fun h=>absurd h (by omega)⟩
   rcases runQ_dst l 0 [] _ _ hr r hr' with h|h
   ·cases h
   ·exact h
  ·obtain ⟨recs',mem',ver',ps',hx,hps,hK⟩:=leafT_holds hK
   simp only [Option.some.injEq,Prod.mk.injEq] at hx
   obtain ⟨rfl,rfl,rfl,rfl⟩:=hx
   rw [hP,←hPq]
   refine wp_region_quiet (C:=fun w'=>Ext w w') hS.mix hB (Ext.drew (Ext.refl w)) ?_
   exact runQ_seq (l:=l) hS hPq (K:=fun a'=>∀ w',Ext w w'→Q .normal a' w') l 0 [] s.mem [] hr (fun j o hj=>by rw [Nat.zero_add];exact hj) (RInv.nil l) hf hM hps (fun e' a' hg' hf' hM' w' hw'=>hend .normal _ e' a' w' hg' hK (flush_ok hf') (hM'.ext hw'))
 ·cases hg
end
end Go.Proofs.Ytdenmoiaiemokaa
set_option linter.unusedVariables false
set_option linter.unusedSimpArgs false
namespace Go.Proofs.Ytdenmoiaiemokaa
open Go.RowKit
def eqU (L M:List (List UInt8)) (i:Int):Bool:=decide (M.getD i.toNat []=L.getD i.toNat [])
end Go.Proofs.Ytdenmoiaiemokaa
set_option linter.unusedVariables false
set_option linter.unusedSimpArgs false
namespace Go.Proofs.Ytdenmoiaiemokaa
open Go.RowKit
theorem NmsOk.snoc {X:List Rw} {r:Rw} (h:NmsOk X) (hr:(r.ss.getD 0 ⟨#[]⟩).size≤100000):NmsOk (X++[r]):=fun x hx=>by
 rcases List.mem_append.1 hx with h'|h'
 ·exact h x h'
 ·rw [List.mem_singleton] at h';subst h';exact hr
end Go.Proofs.Ytdenmoiaiemokaa
set_option linter.unusedVariables false
namespace Go.Proofs.Ytdenmoiaiemokaa
open Go.RowKit
theorem get_at {b:List UInt8} {p:Nat} (n:Nat) (hn:n≤64) (h:p+n≤8 * b.length):(⟨b,p,0⟩:RS).get (n:Int)=⟨b,p+n,0⟩∧(⟨b,p,0⟩:RS).num (n:Int)=val (((bitsAll b).drop p).take n):=RS.get_ok rfl hn h
theorem i64_num (s:RS) (n:Nat) (hn:n≤40):IntKind.i64.wrap (s.num (n:Int):Int)=(s.num (n:Int):Int):=by
 have h:=RS.num_lt s n
 have:(2:Nat) ^ n≤2 ^ 40:=Nat.pow_le_pow_right (by decide) hn
 have e:(2:Nat) ^ 40=1099511627776:=by decide
 exact IntWalk.i64_in _ (by omega)
def slB (b:List UInt8) (p:Nat):List Bool:=(bitsAll b).drop p
theorem g4_at {b:List UInt8} {p:Nat} (h:p+172≤8 * b.length):g4 ⟨b,p,0⟩=⟨b,p+44,0⟩∧gq ⟨b,p,0⟩=(val ((slB b p).take 5):Int)∧gA ⟨b,p,0⟩=(val (((slB b p).drop 5).take 6):Int)∧gB ⟨b,p,0⟩=(val (((slB b p).drop 11).take 31):Int)∧gC ⟨b,p,0⟩=(val (((slB b p).drop 42).take 2):Int):=by
 have h5:(⟨b,p,0⟩:RS).get 5=⟨b,p+5,0⟩∧(⟨b,p,0⟩:RS).num 5=_:=get_at 5 (by decide) (by omega)
 have h6:(⟨b,p+5,0⟩:RS).get 6=⟨b,p+11,0⟩∧(⟨b,p+5,0⟩:RS).num 6=_:=get_at 6 (by decide) (by omega)
 have h31:(⟨b,p+11,0⟩:RS).get 31=⟨b,p+42,0⟩∧(⟨b,p+11,0⟩:RS).num 31=_:=get_at 31 (by decide) (by omega)
 have h2:(⟨b,p+42,0⟩:RS).get 2=⟨b,p+44,0⟩∧(⟨b,p+42,0⟩:RS).num 2=_:=get_at 2 (by decide) (by omega)
 have w5:=i64_num ⟨b,p,0⟩ 5 (by decide)
 have w6:=i64_num ⟨b,p+5,0⟩ 6 (by decide)
 have w31:=i64_num ⟨b,p+11,0⟩ 31 (by decide)
 have w2:=i64_num ⟨b,p+42,0⟩ 2 (by decide)
 refine ⟨?_,?_,?_,?_,?_⟩
 ·unfold g4
  rw [h5.1,h6.1,h31.1,h2.1]
 ·unfold gq
  exact w5.trans (congrArg _ h5.2)
 ·unfold gA
  rw [h5.1]
  refine w6.trans (congrArg _ (h6.2.trans ?_))
  unfold slB
  rw [List.drop_drop]
 ·unfold gB
  rw [h5.1,h6.1]
  refine w31.trans (congrArg _ (h31.2.trans ?_))
  unfold slB
  rw [List.drop_drop]
 ·unfold gC
  rw [h5.1,h6.1,h31.1]
  refine w2.trans (congrArg _ (h2.2.trans ?_))
  unfold slB
  rw [List.drop_drop]
theorem gS_at {b:List UInt8} {q:Nat}:∀ n,q+8 * n≤8 * b.length→gS n ⟨b,q,0⟩=⟨b,q+8 * n,0⟩
 |0,_=>rfl
 |n+1,h=>by
  rw [gS_snoc,gS_at n (by omega)]
  have:=(get_at (b:=b) (p:=q+8 * n) 8 (by decide) (by omega)).1
  exact this
theorem gL_at {b:List UInt8} {q:Nat}:∀ n,q+8 * n≤8 * b.length→gL n ⟨b,q,0⟩=(List.range n).map fun j=>UInt8.ofNat (val ((slB b (q+8 * j)).take 8))
 |0,_=>rfl
 |n+1,h=>by
  rw [gL_snoc,gL_at n (by omega),gS_at n (by omega),List.range_succ,List.map_append]
  congr 1
  have h8:=(get_at (b:=b) (p:=q+8 * n) 8 (by decide) (by omega)).2
  have hl:=RS.num_lt ⟨b,q+8 * n,0⟩ 8
  have e8:(2:Nat) ^ 8=256:=by decide
  show [gU _]=[_]
  unfold gU
  have hw:IntKind.u8.wrap ((⟨b,q+8 * n,0⟩:RS).num 8:Int)=((⟨b,q+8 * n,0⟩:RS).num 8:Int):=by
   have:((⟨b,q+8 * n,0⟩:RS).num ((8:Nat):Int))<256:=by rw [← e8];exact hl
   have e:(⟨b,q+8 * n,0⟩:RS).num ((8:Nat):Int)=(⟨b,q+8 * n,0⟩:RS).num 8:=rfl
   rw [IntKind.wrap_u8];omega
  rw [hw,Int.toNat_natCast]
  congr 2
theorem gE_at {b:List UInt8} {p:Nat} (h:p+172≤8 * b.length):gE ⟨b,p,0⟩=⟨b,p+172,0⟩:=by
 unfold gE
 rw [(g4_at h).1,gS_at 16 (by omega)]
theorem nmB_app (l:List Bool) (nm:ByteArray):∀ k,nmB l nm k=l++nmB [] nm k
 |0=>(List.append_nil l).symm
 |k+1=>by simp only [nmB];rw [nmB_app l nm k,List.append_assoc]
def entF (r:Rw):List Bool:=entB [] r
theorem entB_app (l:List Bool) (r:Rw):entB l r=l++entF r:=by
 unfold entF entB
 rw [nmB_app,nmB_app (_++_)]
 simp only [List.append_assoc,List.nil_append]
theorem entsB_at (Y:List Rw) (t:List Bool):∀ k,k≤Y.length→∀ j,j<k→∃ t',(entsB Y k++t).drop (172 * j)=entF (Y.getD j Rw.zero)++t'
 |0,_,j,hj=>absurd hj (Nat.not_lt_zero j)
 |k+1,hk,j,hj=>by
  have hl:=entsB_len Y k
  rcases Nat.lt_or_ge j k with h|h
  ·obtain ⟨t',ht⟩:=entsB_at Y (entF (Y.getD k Rw.zero)++t) k (by omega) j h
   refine ⟨t',?_⟩
   show (entB (entsB Y k) (Y.getD k Rw.zero)++t).drop _=_
   rw [entB_app,List.append_assoc]
   exact ht
  ·have:j=k:=by omega
   subst this
   refine ⟨t,?_⟩
   show (entB (entsB Y j) (Y.getD j Rw.zero)++t).drop _=_
   rw [entB_app,List.append_assoc,List.drop_left' hl]
theorem nmB_at (nm:ByteArray) (t:List Bool):∀ k j,j<k→∃ t',(nmB [] nm k++t).drop (8 * j)=bitsOf (IntKind.u64.wrap (chI nm (j:Int))).toNat 8++t'
 |0,j,hj=>absurd hj (Nat.not_lt_zero j)
 |k+1,j,hj=>by
  have hl:=nmB_len [] nm k
  rw [List.length_nil,Nat.zero_add] at hl
  rcases Nat.lt_or_ge j k with h|h
  ·obtain ⟨t',ht⟩:=nmB_at nm (bitsOf (IntKind.u64.wrap (chI nm (k:Int))).toNat 8++t) k j h
   refine ⟨t',?_⟩
   show (nmB [] nm k++_++t).drop _=_
   rw [List.append_assoc]
   exact ht
  ·have:j=k:=by omega
   subst this
   refine ⟨t,?_⟩
   show (nmB [] nm j++_++t).drop _=_
   rw [List.append_assoc,List.drop_left' hl]
theorem take_len {l t:List Bool} {n:Nat} (h:l.length=n):(l++t).take n=l:=List.take_left' h
theorem entF_parts (r:Rw):entF r=bitsOf (IntKind.u64.wrap ((r.ss.getD 0 ⟨#[]⟩).size:Int)).toNat 5++(bitsOf (IntKind.u64.wrap (r.is.getD 0 0)).toNat 6++(bitsOf (IntKind.u64.wrap (r.is.getD 1 0)).toNat 31++(bitsOf (IntKind.u64.wrap (r.is.getD 2 0)).toNat 2++nmB [] (r.ss.getD 0 ⟨#[]⟩) 16))):=by
 unfold entF entB
 rw [nmB_app]
 simp only [List.append_assoc,List.nil_append]
theorem u64_nat {x:Int} {m:Nat} (h:0≤x∧x<(m:Int)) (hm:m≤18446744073709551616):(IntKind.u64.wrap x).toNat=x.toNat:=by rw [u64w_id (by omega)]
theorem read_ent {b:List UInt8} {p:Nat} {r:Rw} {t:List Bool} (h:p+172≤8 * b.length) (hr:isR r=true) (hB:slB b p=entF r++t):
  gq ⟨b,p,0⟩=((r.ss.getD 0 ⟨#[]⟩).size:Int)∧gA ⟨b,p,0⟩=r.is.getD 0 0∧gB ⟨b,p,0⟩=r.is.getD 1 0∧gC ⟨b,p,0⟩=r.is.getD 2 0∧(gL 16 (g4 ⟨b,p,0⟩)).take (r.ss.getD 0 ⟨#[]⟩).size=(r.ss.getD 0 ⟨#[]⟩).data.toList:=by
 obtain ⟨hn,ha,hb,hc⟩:=isE_in hr
 obtain ⟨k0,k1,k2,k3,k4⟩:=g4_at h
 rw [entF_parts] at hB
 simp only [List.append_assoc] at hB
 have hsz:(r.ss.getD 0 ⟨#[]⟩).data.toList.length=(r.ss.getD 0 ⟨#[]⟩).size:=Array.length_toList
 refine ⟨?_,?_,?_,?_,?_⟩
 ·rw [k1,hB,take_len (bitsOf_length _ _),u64_nat (m:=17) ⟨by omega,by omega⟩ (by decide),val_bits_id (by rw [Int.toNat_natCast];omega),Int.toNat_natCast]
 ·rw [k2,hB,List.drop_left' (bitsOf_length _ _),take_len (bitsOf_length _ _),u64_nat (m:=41) ⟨by omega,by omega⟩ (by decide),val_bits_id (by show _<64;omega)]
  omega
 ·have e:∀ l:List Bool,l.drop 11=(l.drop 5).drop 6:=fun l=>by rw [List.drop_drop]
  rw [k3,hB,e,List.drop_left' (bitsOf_length _ _),List.drop_left' (bitsOf_length _ _),take_len (bitsOf_length _ _),u64_nat (m:=2147483648) ⟨by omega,by omega⟩ (by decide),val_bits_id (by show _<2147483648;omega)]
  omega
 ·have e:∀ l:List Bool,l.drop 42=((l.drop 5).drop 6).drop 31:=fun l=>by rw [List.drop_drop,List.drop_drop]
  rw [k4,hB,e,List.drop_left' (bitsOf_length _ _),List.drop_left' (bitsOf_length _ _),List.drop_left' (bitsOf_length _ _),take_len (bitsOf_length _ _),u64_nat (m:=3) ⟨by omega,by omega⟩ (by decide),val_bits_id (by show _<4;omega)]
  omega
 ·rw [k0,gL_at 16 (by omega)]
  apply List.ext_getElem
  ·rw [List.length_take,List.length_map,List.length_range,hsz];omega
  ·intro j h1 h2
   rw [List.getElem_take,List.getElem_map,List.getElem_range]
   have hj:j<16:=by rw [hsz] at h2;omega
   have e:slB b (p+44+8 * j)=((((slB b p).drop 5).drop 6).drop 31 |>.drop 2).drop (8 * j):=by
    unfold slB
    rw [List.drop_drop,List.drop_drop,List.drop_drop,List.drop_drop,List.drop_drop]
    congr 1
    omega
   obtain ⟨t',ht⟩:=nmB_at (r.ss.getD 0 ⟨#[]⟩) t 16 j hj
   have hcj:chI (r.ss.getD 0 ⟨#[]⟩) (j:Int)=(((r.ss.getD 0 ⟨#[]⟩).data.toList[j]).toNat:Int):=by
    unfold chI
    rw [decide_eq_true (by rw [hsz] at h2;omega),cond_true,Int.toNat_natCast,List.getD_eq_getElem?_getD,List.getElem?_eq_getElem h2];rfl
   rw [e,hB,List.drop_left' (bitsOf_length _ _),List.drop_left' (bitsOf_length _ _),List.drop_left' (bitsOf_length _ _),List.drop_left' (bitsOf_length _ _),ht,take_len (bitsOf_length _ _),hcj]
   have hlt:=((r.ss.getD 0 ⟨#[]⟩).data.toList[j]).toNat_lt
   rw [u64_nat (m:=256) ⟨by omega,by omega⟩ (by decide),Int.toNat_natCast,val_bits_id (by show _<256;omega)]
   simp
theorem val_zero:∀ l:List Bool,(∀ x∈l,x=false)→val l=0
 |[],_=>rfl
 |a::l,h=>by
  rw [val_cons,h a (List.mem_cons_self ..),val_zero l fun x hx=>h x (List.mem_cons_of_mem _ hx)];simp
theorem read_none {b:List UInt8} {p:Nat} (h:p+172≤8 * b.length) (hB:∀ x∈slB b p,x=false):gq ⟨b,p,0⟩=0:=by
 rw [(g4_at h).2.1,val_zero _ fun x hx=>hB x (List.mem_of_mem_take hx)];rfl
theorem bits_blk (Y:List Rw):∃ k,bitsAll (blkD Y)=entsB Y Y.length++List.replicate k false:=by
 obtain ⟨k,_,h⟩:=bitsAll_packed _ (entsB Y Y.length) (Nat.le_refl _)
 have hz:∀ n,bitsAll (List.replicate n 0)=List.replicate (8 * n) false:=fun n=>by
  induction n with
  |zero=>rfl
  |succ n ih=>
   rw [List.replicate_succ]
   show bitsOf 0 8++bitsAll _=_
   rw [ih,Nat.mul_succ,Nat.add_comm,←List.replicate_append_replicate];rfl
 refine ⟨k+8 * (128 - (packed (entsB Y Y.length)).length),?_⟩
 unfold blkD padL
 rw [bitsAll_append,h,hz,List.append_assoc,List.replicate_append_replicate]
theorem blkD_len {Y:List Rw} (hl:Y.length≤5):(blkD Y).length=128:=by
 unfold blkD padL
 rw [List.length_append,List.length_replicate,packed_length,entsB_len]
 omega
theorem nm_eq {nm:ByteArray} {l:List UInt8} (h:l=nm.data.toList):(⟨l.toArray⟩:ByteArray)=nm:=by
 subst h
 simp
theorem slot_in {Y:List Rw} (hl:Y.length≤5) (hr:∀ r∈Y,isR r=true) {k:Nat} (hk:k<Y.length):entH ⟨blkD Y,172 * k,0⟩=nrm4 (Y.getD k Rw.zero)∧entG ⟨blkD Y,172 * k,0⟩=nrm4 (Y.getD k Rw.zero)∧inE ⟨blkD Y,172 * k,0⟩=true∧((gNm ⟨blkD Y,172 * k,0⟩).toList==(⟨#[]⟩:ByteArray).toList)=false∧gq ⟨blkD Y,172 * k,0⟩≤16:=by
 obtain ⟨z,hz⟩:=bits_blk Y
 obtain ⟨t',ht⟩:=entsB_at Y (List.replicate z false) Y.length (Nat.le_refl _) k hk
 rw [← hz] at ht
 have hR:isR (Y.getD k Rw.zero)=true:=hr _ (by rw [List.getD_eq_getElem?_getD,List.getElem?_eq_getElem hk];exact List.getElem_mem _)
 have hlen:=blkD_len hl
 obtain ⟨h1,h2,h3,h4,h5⟩:=read_ent (b:=blkD Y) (p:=172 * k) (by omega) hR ht
 obtain ⟨hn,_⟩:=isE_in hR
 have hn0:0<((Y.getD k Rw.zero).ss.getD 0 ⟨#[]⟩).size:=by
  have:=hR
  unfold isR isE nameB at this
  simp only [Bool.and_eq_true,decide_eq_true_eq] at this
  omega
 have hgN:gN ⟨blkD Y,172 * k,0⟩=(((Y.getD k Rw.zero).ss.getD 0 ⟨#[]⟩).size:Int):=by
  have:gN ⟨blkD Y,172 * k,0⟩=if (16:Int)<gq ⟨blkD Y,172 * k,0⟩ then 16 else gq ⟨blkD Y,172 * k,0⟩:=rfl
  rw [this,h1,if_neg (by omega)]
 have hnm:gNm ⟨blkD Y,172 * k,0⟩=(Y.getD k Rw.zero).ss.getD 0 ⟨#[]⟩:=by
  unfold gNm
  rw [hgN,Int.toNat_natCast,h5]
 refine ⟨?_,?_,?_,?_,?_⟩
 ·unfold entH nrm4
  rw [h1,h2,h3,h4,Int.toNat_natCast,List.drop_zero,Nat.sub_zero,h5,nm_eq rfl]
 ·unfold entG nrm4
  rw [h2,h3,h4,hnm]
 ·unfold inE
  rw [h1,Bool.and_eq_true,decide_eq_true_iff,decide_eq_true_iff]
  omega
 ·rw [hnm]
  cases hq:(((Y.getD k Rw.zero).ss.getD 0 ⟨#[]⟩).toList==(⟨#[]⟩:ByteArray).toList) with
  |false=>rfl
  |true=>
   have:=congrArg List.length (eq_of_beq hq)
   rw [byteArray_len] at this
   have e0:(⟨#[]⟩:ByteArray).toList.length=0:=by rw [byteArray_len];rfl
   omega
 ·rw [h1];omega
theorem slot_out {Y:List Rw} (hl:Y.length≤5) {k:Nat} (hk:Y.length≤k) (h5:k<5):inE ⟨blkD Y,172 * k,0⟩=false∧((gNm ⟨blkD Y,172 * k,0⟩).toList==(⟨#[]⟩:ByteArray).toList)=true∧gq ⟨blkD Y,172 * k,0⟩≤16:=by
 obtain ⟨z,hz⟩:=bits_blk Y
 have hlen:=blkD_len hl
 have hq:=read_none (b:=blkD Y) (p:=172 * k) (by omega) fun x hx=>by
  unfold slB at hx
  rw [hz] at hx
  obtain ⟨n,hn,rfl⟩:=List.getElem_of_mem hx
  rw [List.getElem_drop,List.getElem_append_right (by rw [entsB_len];omega),List.getElem_replicate]
 have hgN:gN ⟨blkD Y,172 * k,0⟩=0:=by
  have:gN ⟨blkD Y,172 * k,0⟩=if (16:Int)<gq ⟨blkD Y,172 * k,0⟩ then 16 else gq ⟨blkD Y,172 * k,0⟩:=rfl
  rw [this,hq,if_neg (by omega)]
 refine ⟨?_,?_,?_⟩
 ·unfold inE;rw [hq];rfl
 ·unfold gNm;rw [hgN];simp
 ·rw [hq];omega
end Go.Proofs.Ytdenmoiaiemokaa
set_option linter.unusedVariables false
namespace Go.Proofs.Ytdenmoiaiemokaa
open Go.RowKit
theorem slE_at (b:List UInt8) {k:Nat} (h:k≤5):slE b (k:Int)=⟨b,172 * k,0⟩:=by
 unfold slE
 rw [IntWalk.i64_in _ (by omega)]
 congr 1
 omega
def small (b:List UInt8):Prop:=∀ k,k<5→gq ⟨b,172 * k,0⟩≤16
theorem stE_s {b:List UInt8} (hb:b.length=128) (X:List Rw):∀ k,k≤5→(stE X (RS.new b) k).2=⟨b,172 * k,0⟩
 |0,_=>rfl
 |k+1,h=>by
  show gE (stE X (RS.new b) k).2=_
  rw [stE_s hb X k (by omega),gE_at (by omega)]
  congr 1
theorem gq_pos (s:RS):0≤gq s:=by
 unfold gq
 rw [show (5:Int)=((5:Nat):Int) from rfl,i64_num s 5 (by decide)]
 omega
theorem gN_small {s:RS} (h:gq s≤16):gN s=gq s:=by
 have:gN s=if (16:Int)<gq s then 16 else gq s:=rfl
 rw [this,if_neg (by omega)]
theorem nm_none {s:RS} (h:gq s≤16):((gNm s).toList==(⟨#[]⟩:ByteArray).toList)=!inE s:=by
 have hl:(gNm s).toList.length=(gq s).toNat:=by
  rw [byteArray_len]
  unfold gNm
  rw [gN_small h]
  show ((gL 16 (g4 s)).take (gq s).toNat).toArray.size=_
  rw [List.size_toArray,List.length_take,gL_len]
  omega
 have e0:(⟨#[]⟩:ByteArray).toList.length=0:=by rw [byteArray_len];rfl
 have hp:=gq_pos s
 by_cases hq:gq s=0
 ·rw [hq] at hl
  have h1:=List.eq_nil_of_length_eq_zero hl
  have h2:=List.eq_nil_of_length_eq_zero e0
  rw [h1,h2]
  unfold inE
  rw [hq];rfl
 ·have:inE s=true:=by
   unfold inE
   rw [Bool.and_eq_true,decide_eq_true_iff,decide_eq_true_iff];omega
  rw [this]
  cases hh:((gNm s).toList==(⟨#[]⟩:ByteArray).toList) with
  |false=>rfl
  |true=>
   have:=congrArg List.length (eq_of_beq hh)
   omega
theorem ent_eq {s:RS} (h:gq s≤16):entG s=entH s:=by
 unfold entG entH gNm
 rw [gN_small h,List.drop_zero,Nat.sub_zero]
theorem stE_stH {b:List UInt8} (hb:b.length=128) (hs:small b) (X:List Rw):∀ k,k≤5→(stE X (RS.new b) k).1=stH b X k
 |0,_=>rfl
 |k+1,h=>by
  have ih:=stE_stH hb hs X k (by omega)
  have h16:=hs k (by omega)
  unfold stE stH
  rw [stE_s hb X k (by omega),ih,slE_at b (by omega),nm_none h16,ent_eq h16]
  cases inE ⟨b,172 * k,0⟩<;>rfl
def Good (L:List (List UInt8)):Prop:=∀ l∈L,l.length=128∧small l
theorem sto_str {L:List (List UInt8)} (h:Good L):∀ k,k≤L.length→stO L k=stR L k
 |0,_=>rfl
 |k+1,hk=>by
  obtain ⟨h1,h2⟩:=h (L.getD k []) (by rw [List.getD_eq_getElem?_getD,List.getElem?_eq_getElem (show k<L.length by omega)];exact List.getElem_mem _)
  show (stE (stO L k) (RS.new (L.getD k [])) 5).1=stH (L.getD k []) (stR L k) 5
  rw [stE_stH h1 h2 _ 5 (Nat.le_refl _),sto_str h k (by omega)]
theorem small_blk {Y:List Rw} (hl:Y.length≤5) (hr:∀ r∈Y,isR r=true):(blkD Y).length=128∧small (blkD Y):=by
 refine ⟨blkD_len hl,fun k hk=>?_⟩
 rcases Nat.lt_or_ge k Y.length with h|h
 ·exact (slot_in hl hr h).2.2.2.2
 ·exact (slot_out hl h hk).2.2
theorem okP_right {R:List Rw} (h:okP R=true):∀ r∈R,isR r=true:=fun r hr=>by
 have h2:=(Bool.and_eq_true_iff.1 h).2
 obtain ⟨j,hj,rfl⟩:=List.getElem_of_mem hr
 have:=allI_iff.1 h2 (j:Int) (by omega) (by simpa using hj)
 unfold isI at this
 rw [Int.toNat_natCast,List.getD_eq_getElem?_getD,List.getElem?_eq_getElem hj] at this
 exact this
theorem blksD_good {R:List Rw} (h:∀ r∈R,isR r=true):∀ k,Good (blksD R k)
 |0=>fun l hl=>by cases hl
 |k+1=>fun l hl=>by
  have hl:l∈blksD R k++[blkD ((R.drop (5 * k)).take 5)]:=hl
  rcases List.mem_append.1 hl with h'|h'
  ·exact blksD_good h k l h'
  ·rw [List.mem_singleton] at h'
   subst h'
   exact small_blk (List.length_take_le ..) fun r hr=>h r (List.mem_of_mem_drop (List.mem_of_mem_take hr))
theorem rbB_good (R:List Rw):Good (rbB R):=by
 unfold rbB
 rw [← okP_is]
 cases h:okP R with
 |false=>exact fun l hl=>by cases hl
 |true=>
  rw [Bool.true_and]
  cases decide ((R.length:Int)>24) with
  |true=>exact fun l hl=>by cases hl
  |false=>exact blksD_good (okP_right h) _
theorem stH_blk {Y:List Rw} (hl:Y.length≤5) (hr:∀ r∈Y,isR r=true) (X:List Rw):∀ j,j≤5→stH (blkD Y) X j=X++(Y.take j).map nrm4
 |0,_=>by simp [stH]
 |j+1,h=>by
  have ih:=stH_blk hl hr X j (by omega)
  unfold stH
  rw [slE_at _ (by omega),ih]
  rcases Nat.lt_or_ge j Y.length with hj|hj
  ·obtain ⟨h1,_,h3,_⟩:=slot_in hl hr hj
   rw [h3,h1,cond_true,List.append_assoc,List.take_add_one,List.map_append]
   congr 2
   rw [List.getD_eq_getElem?_getD,List.getElem?_eq_getElem hj];rfl
  ·obtain ⟨h1,_⟩:=slot_out hl hj (by omega)
   rw [h1,cond_false,List.take_of_length_le hj,List.take_of_length_le (by omega)]
theorem stR_blks {R:List Rw} (hr:∀ r∈R,isR r=true):∀ n k,k≤n→stR (blksD R n) k=(R.take (5 * k)).map nrm4
 |n,0,_=>rfl
 |n,k+1,h=>by
  have ih:=stR_blks hr n k (by omega)
  have hat:∀ n,k<n→(blksD R n).getD k []=blkD ((R.drop (5 * k)).take 5):=by
   intro n
   induction n with
   |zero=>intro h;omega
   |succ n ihn=>
    intro hk
    have hln:∀ m,(blksD R m).length=m:=fun m=>by
     induction m with
     |zero=>rfl
     |succ m ihm=>show (blksD R m++[_]).length=_;rw [List.length_append,ihm];rfl
    show (blksD R n++[_]).getD k []=_
    rcases Nat.lt_or_ge k n with hh|hh
    ·rw [List.getD_eq_getElem?_getD,List.getElem?_append_left (by rw [hln];exact hh),←List.getD_eq_getElem?_getD]
     exact ihn hh
    ·have:k=n:=by omega
     subst this
     rw [List.getD_eq_getElem?_getD,List.getElem?_append_right (by rw [hln];exact Nat.le_refl _),hln,Nat.sub_self];rfl
  show stH ((blksD R n).getD k []) (stR (blksD R n) k) 5=_
  rw [ih,hat n (by omega),stH_blk (List.length_take_le ..) (fun r hr'=>hr r (List.mem_of_mem_drop (List.mem_of_mem_take hr'))) _ 5 (Nat.le_refl _),←List.map_append,List.take_take,Nat.min_self]
  congr 1
  rw [Nat.mul_succ,List.take_add]
theorem back {R:List Rw} (hE:dbE R=0) (hn:R.map nrm4=R):deOk (dbB R)=true∧deR (dbB R)=R:=by
 have hok:okP R=true∧decide ((R.length:Int)>24)=false:=by
  unfold dbE at hE
  cases h:okP R with
  |false=>rw [h] at hE;cases hE
  |true=>
   cases h2:decide ((R.length:Int)>24) with
   |false=>exact ⟨rfl,rfl⟩
   |true=>rw [h,h2] at hE;cases hE
 have hB:dbB R=blksD R (nbR R):=by
  rw [dbB_is]
  unfold rbB
  rw [← okP_is,hok.1,hok.2];rfl
 have hlen:(blksD R (nbR R)).length=nbR R:=by
  have:=blks_is (okP_right hok.1) (nbR R)
  rw [← this,blksP_len]
 have hs:stR (dbB R) (dbB R).length=R:=by
  rw [hB,hlen,stR_blks (okP_right hok.1) _ _ (Nat.le_refl _),List.take_of_length_le (by unfold nbR;omega),hn]
 have hg:Good (dbB R):=by rw [dbB_is];exact rbB_good R
 have hs':stO (dbB R) (dbB R).length=R:=by rw [sto_str hg _ (Nat.le_refl _),hs]
 have h1:deOk (dbB R)=true:=by
  unfold deOk
  rw [hs',hE]
  simp
 refine ⟨h1,?_⟩
 unfold deR
 rw [h1,hs'];rfl
theorem ba_refl (a:ByteArray):(a==a)=true:=by cases a with|mk d=>show (d==d)=true;simp
theorem same_refl (R:List Rw):sameR R R=true:=by
 unfold sameR
 rw [decide_eq_true rfl,Bool.true_and,allI_iff]
 intro i _ _
 unfold sameI sameE
 rw [ba_refl]
 simp
end Go.Proofs.Ytdenmoiaiemokaa
set_option linter.unusedVariables false
set_option linter.unusedSimpArgs false
namespace Go.Proofs.Ytdenmoiaiemokaa
open Go.RowKit
structure DbIs (R:List Rw) (L:List (List UInt8)) (e:Int):Prop where
 b:dbB R=L
 c:dbE R=e
def C_dblkN (L:List (List UInt8)) (e:Int):Ctr Td:=fun us sub=>match us,sub with
 |[.one (.obj 0)],[⟨.us (.ext (.vw [true,false,false,false] R)),false⟩]=>some ([R.length≤1000,DbIs R L e],.tup [.one (.obj 1),.one (.v (.int .i64 e))],[⟨.us (.ext (.vw [true,false,false,false] R)),false⟩,⟨.us (.ext (.tab (.bs L))),true⟩])
 |_,_=>none
set_option maxRecDepth 100000 in
theorem C_dblkN_ok (L:List (List UInt8)) (e:Int):CtrOk Try.prog Id' 58 (C_dblkN L e):=by
 intro us sub ps x sm h hp w e_ vs hM ha
 unfold C_dblkN at h
 split at h
 ·rename_i R
  simp only [Option.some.injEq,Prod.mk.injEq] at h
  obtain ⟨rfl,rfl,rfl⟩:=h
  have q:DbIs R L e:=hp _ (List.mem_cons_of_mem _ (List.mem_cons_self ..))
  obtain ⟨rfl,rfl⟩:=q
  exact C_dblocks_ok  _ _ _ _ _ rfl (fun q hq=>(by
   simp only [List.mem_cons,List.not_mem_nil,or_false] at hq
   subst hq;exact hp _ (List.mem_cons_self ..))) w e_ vs hM ha
 ·cases h
theorem R_dblkN (L:List (List UInt8)) (e:Int):RowOk Try.prog Id' hardD 58 (ctrF Id' (C_dblkN L e) hardD):=ctrF_ok Try.call58 (C_dblkN_ok L e)
structure RbIs (R:List Rw) (L:List (List UInt8)) (e:Int):Prop where
 b:rbB R=L
 c:rbE R=e
def C_rblkN (L:List (List UInt8)) (e:Int):Ctr Td:=fun us sub=>match us,sub with
 |[.one (.obj 0)],[⟨.us (.ext (.vw [true,false,false,false] R)),false⟩]=>some ([R.length≤1000,NmsOk R,RbIs R L e],.tup [.one (.obj 1),.one (.v (.int .i64 e))],[⟨.us (.ext (.vw [true,false,false,false] R)),false⟩,⟨.us (.ext (.tab (.bs L))),true⟩])
 |_,_=>none
set_option maxRecDepth 100000 in
theorem C_rblkN_ok (L:List (List UInt8)) (e:Int):CtrOk Try.prog Id' 59 (C_rblkN L e):=by
 intro us sub ps x sm h hp w e_ vs hM ha
 unfold C_rblkN at h
 split at h
 ·rename_i R
  simp only [Option.some.injEq,Prod.mk.injEq] at h
  obtain ⟨rfl,rfl,rfl⟩:=h
  have q:RbIs R L e:=hp _ (List.mem_cons_of_mem _ (List.mem_cons_of_mem _ (List.mem_cons_self ..)))
  obtain ⟨rfl,rfl⟩:=q
  exact C_rblocks_ok  _ _ _ _ _ rfl (fun q hq=>(by
   simp only [List.mem_cons,List.not_mem_nil,or_false] at hq
   rcases hq with rfl|rfl<;>first|exact hp _ (List.mem_cons_self ..)|exact hp _ (List.mem_cons_of_mem _ (List.mem_cons_self ..)))) w e_ vs hM ha
 ·cases h
theorem R_rblkN (L:List (List UInt8)) (e:Int):RowOk Try.prog Id' hardD 59 (ctrF Id' (C_rblkN L e) hardD):=ctrF_ok Try.call59 (C_rblkN_ok L e)
structure DeIs (L:List (List UInt8)) (X:List Rw) (e:Int):Prop where
 b:deR L=X
 c:deE L=e
def C_dentN (L:List (List UInt8)) (X:List Rw) (e:Int):Ctr Td:=fun us sub=>match us,sub with
 |[.one (.obj 0)],[⟨.us (.ext (.shr sz n el)),false⟩]=>some ([sz=1∧n=L.length∧el=tbE L,L.length≤100∧∀ l∈L,l.length≤100000,DeIs L X e],.tup [.one (.obj 1),.one (.v (.int .i64 e))],[⟨.us (.ext (.shr sz n el)),false⟩,⟨.us (.ext (.vw [true,false,false,false] X)),false⟩])
 |_,_=>none
set_option maxRecDepth 100000 in
theorem C_dentN_ok (L:List (List UInt8)) (X:List Rw) (e:Int):CtrOk Try.prog Id' 61 (C_dentN L X e):=by
 intro us sub ps x sm h hp w e_ vs hM ha
 unfold C_dentN at h
 split at h
 ·rename_i sz n el
  simp only [Option.some.injEq,Prod.mk.injEq] at h
  obtain ⟨rfl,rfl,rfl⟩:=h
  have q:DeIs L X e:=hp _ (List.mem_cons_of_mem _ (List.mem_cons_of_mem _ (List.mem_cons_self ..)))
  obtain ⟨rfl,rfl⟩:=q
  exact C_dents_ok L _ _ _ _ _ rfl (fun q hq=>(by
   simp only [List.mem_cons,List.not_mem_nil,or_false] at hq
   rcases hq with rfl|rfl<;>first|exact hp _ (List.mem_cons_self ..)|exact hp _ (List.mem_cons_of_mem _ (List.mem_cons_self ..)))) w e_ vs hM ha
 ·cases h
theorem R_dentN (L:List (List UInt8)) (X:List Rw) (e:Int):RowOk Try.prog Id' hardD 61 (ctrF Id' (C_dentN L X e) hardD):=ctrF_ok Try.call61 (C_dentN_ok L X e)
structure FewIs (R:List Rw) (n:Int) (Y:List Rw):Prop where
 b:fewR R n=Y
def C_fewN (Y:List Rw):Ctr Td:=fun us sub=>match us,sub with
 |[.one (.obj 0),.one (.v (.int .i64 n))],[⟨.us (.ext (.vw [true,false,false,false] R)),false⟩]=>some ([0≤n∧n≤1000,FewIs R n Y],.c (.one (.obj 1)),[⟨.us (.ext (.vw [true,false,false,false] R)),false⟩,⟨.us (.ext (.flat (.rw 109 [true,false,false,false] Y))),true⟩])
 |_,_=>none
set_option maxRecDepth 100000 in
theorem C_fewN_ok (Y:List Rw):CtrOk Try.prog Id' 57 (C_fewN Y):=by
 intro us sub ps x sm h hp w e_ vs hM ha
 unfold C_fewN at h
 split at h
 ·rename_i n R
  simp only [Option.some.injEq,Prod.mk.injEq] at h
  obtain ⟨rfl,rfl,rfl⟩:=h
  have q:FewIs R n Y:=hp _ (List.mem_cons_of_mem _ (List.mem_cons_self ..))
  obtain ⟨rfl⟩:=q
  exact C_few_ok  _ _ _ _ _ rfl (fun q hq=>(by
   simp only [List.mem_cons,List.not_mem_nil,or_false] at hq
   subst hq;exact hp _ (List.mem_cons_self ..))) w e_ vs hM ha
 ·cases h
theorem R_fewN (Y:List Rw):RowOk Try.prog Id' hardD 57 (ctrF Id' (C_fewN Y) hardD):=ctrF_ok Try.call57 (C_fewN_ok Y)
end Go.Proofs.Ytdenmoiaiemokaa
set_option linter.unusedVariables false
set_option linter.unusedSimpArgs false
namespace Go.Proofs.Ytdenmoiaiemokaa
open Go.RowKit
def lvR:List Rw:=[⟨[2,1,2],[⟨#[97]⟩]⟩]
set_option maxRecDepth 100000 in
theorem lvs_w0 (L:List (List UInt8)) (X:List Rw) (h0:L.length≤100∧∀ l∈L,l.length≤100000) (h1:DbIs lvR L 0) (h2:DeIs L X 0) (h3:((0:Int)==(0:Int)&&(0:Int)==(0:Int)&&(L.length:Int)==(1:Int))=true) (h4:sameR lvR X=true):∃ qs,wayO Id' ([]:Mem Td).length [] (svV (.bool true)) ((runFn (⟨Try.prog,[(58,ctrF Id' (C_dblkN L 0) hardD),(61,ctrF Id' (C_dentN L X 0) hardD),(63,ctrF Id' C_rsame hardD)],[],dkHo,Id'.one,60⟩:Sy Td) [(100002,mapG (modAt wkE 0) (⟨Try.prog,[(58,ctrF Id' (C_dblkN L 0) hardD)],[],dkHo,Id'.one,60⟩:Sy Td) 35 (regO 2 (bodyOf Try.f60)) (drwR 2 (bodyOf Try.f60))),(100003,mapG (modAt wkE 1) (⟨Try.prog,[(61,ctrF Id' (C_dentN L X 0) hardD)],[],dkHo,Id'.one,60⟩:Sy Td) 35 (regO 3 (bodyOf Try.f60)) (drwR 3 (bodyOf Try.f60)))] Try.f60 [] []).al [true])=some qs∧∀ q∈qs,q:=
 ⟨[lvR.length≤(1000:Nat),DbIs lvR L (0:Int),(1:Nat)=(1:Nat)∧L.length=L.length∧tbE L=tbE L,L.length≤(100:Nat)∧∀ (l:List UInt8),l∈L→l.length≤(100000:Nat),DeIs L X (0:Int),((0:Int)==(0:Int)&&(0:Int)==(0:Int)&&(↑L.length:Int)==(1:Int))=true,lvR.length≤(100000:Nat),((0:Int)==(0:Int)&&(0:Int)==(0:Int)&&(↑L.length:Int)==(1:Int))=true,Value.bool (sameR lvR X)=Value.bool true],by kernel_rfl,(by refine mcons ?_ (mcons ?_ (mcons ?_ (mcons ?_ (mcons ?_ (mcons ?_ (mcons ?_ (mcons ?_ (mcons ?_ mnil))))))))<;>first|exact h0|exact h1|exact h2|exact h3|(exact congrArg Value.bool h4)|(exact (by decide:(1:Nat)≤1000))|(exact (by decide:(1:Nat)≤100000))|exact h0|exact h1|exact h2|exact h3|exact h4|trivial|(exact ⟨rfl,rfl,rfl⟩)|(exact congrArg Value.bool h4)|(exact (by decide:(1:Nat)≤1000))|(exact (by decide:(1:Nat)≤100000)))⟩
theorem lvE:dbE lvR=0:=by decide +kernel
theorem lvN:lvR.map nrm4=lvR:=rfl
theorem lvL:(dbB lvR).length=1:=by decide +kernel
theorem deE_ok {L:List (List UInt8)} (h:deOk L=true):deE L=0:=by unfold deE;rw [h];rfl
theorem dbB_wid (R:List Rw):∀ l∈dbB R,l.length≤100000:=fun l hl=>by
 rw [dbB_is] at hl
 have:=(rbB_good R l hl).1
 omega
def C_lives:Ctr Td:=fun us sub=>match us,sub with
 |[],[]=>some ([],svV (.bool true),[])
 |_,_=>none
set_option maxRecDepth 100000 in
theorem C_lives_ok:CtrOk Try.prog Id' 60 C_lives:=by
 intro us sub ps x sm h hp w e vs hM ha
 unfold C_lives at h
 split at h
 ·skip
  simp only [Option.some.injEq,Prod.mk.injEq] at h
  obtain ⟨rfl,rfl,rfl⟩:=h
  exact ctr_way (I:=Id') (fun (W0:World) (G:Nat→Prop)=>SyOk.mk2 Try.mixed dkHo_ok (FnsR.cons ((R_dblkN (dbB lvR) 0)) (FnsR.cons ((R_dentN (dbB lvR) lvR 0)) (FnsR.cons (R_rsame) (FnsR.nil)))) EqsOk.nil) rfl Try.func60 (by kernel_rfl) (fun W0 G=>LpsOk.cons (by kernel_rfl) (mapG_sound (id:=2) ((fun (W0:World) (G:Nat→Prop)=>SyOk.mk2 Try.mixed dkHo_ok (FnsR.cons ((R_dblkN (dbB lvR) 0)) (FnsR.nil)) EqsOk.nil) W0 G) rfl (fun w e mem h=>wk_ok (W0:=W0) (G:=G) 0 w e mem h)) (LpsOk.cons (by kernel_rfl) (mapG_sound (id:=3) ((fun (W0:World) (G:Nat→Prop)=>SyOk.mk2 Try.mixed dkHo_ok (FnsR.cons ((R_dentN (dbB lvR) lvR 0)) (FnsR.nil)) EqsOk.nil) W0 G) rfl (fun w e mem h=>wk_ok (W0:=W0) (G:=G) 1 w e mem h)) (LpsOk.nil _))) (cs:=[true]) (by kernel_rfl) (lvs_w0 (dbB lvR) lvR ⟨by rw [lvL];decide,dbB_wid lvR⟩ ⟨rfl,lvE⟩ ⟨(back lvE lvN).2,deE_ok (back lvE lvN).1⟩ (by rw [lvL];rfl) (same_refl lvR)) w e vs hM ha
 ·cases h
theorem R_lives:RowOk Try.prog Id' hardD 60 (ctrF Id' C_lives hardD):=ctrF_ok Try.call60 C_lives_ok
end Go.Proofs.Ytdenmoiaiemokaa
set_option linter.unusedVariables false
set_option linter.unusedSimpArgs false
namespace Go.Proofs.Ytdenmoiaiemokaa
open Go.RowKit Go.ChangeShapes Go.WideShapes Go.ChangeAt
theorem args_us {w:World} {e:Env} {mem:Mem Td} (h:MemOk w (FootOf Id' w e mem) Id' w e mem) (hro:∀ n∈mem,n.mu=false) {u:Value} {b:Td} (hb:Id'.holds b w u) (hlt:∀ k,Id'.foot b w u k→k<w.heap.size):MemOk w (FootOf Id' w (e++[u]) (mem++[⟨.us b,false⟩])) Id' w (e++[u]) (mem++[⟨.us b,false⟩]):=by
 have hget:∀ (i:Nat) (v:Value) (n:En Td),(e++[u])[i]? =some v→(mem++[⟨.us b,false⟩])[i]? =some n→(e[i]? =some v∧mem[i]? =some n)∨(v=u∧n=⟨.us b,false⟩):=fun i v n hv hn=>by
  have hl:=h.len
  rcases Nat.lt_or_ge i e.length with hi|hi
  ·rw [List.getElem?_append_left hi] at hv
   rw [List.getElem?_append_left (by omega)] at hn
   exact .inl ⟨hv,hn⟩
  ·rw [List.getElem?_append_right hi] at hv
   rw [List.getElem?_append_right (by omega)] at hn
   rw [hl] at hv
   cases hq:i - mem.length with
   |zero=>rw [hq] at hv hn;simp at hv hn;exact .inr ⟨hv.symm,hn.symm⟩
   |succ q=>rw [hq] at hv;simp at hv
 have hmu:∀ (i:Nat) (v:Value) (n:En Td),(e++[u])[i]? =some v→(mem++[⟨.us b,false⟩])[i]? =some n→n.mu=false:=fun i v n hv hn=>by
  rcases hget i v n hv hn with ⟨_,h2⟩|⟨_,rfl⟩
  ·exact hro n (List.mem_of_getElem? h2)
  ·rfl
 refine ⟨by simp [h.len],fun i v n hv hn=>?_,fun i v n hv hn k hk=>?_,fun i v n hv hn hm=>?_,fun i j v x n m hv hn hm=>?_,Mod.refl _ w,fun i v n hv hn k hk=>.inr (footO.2 ⟨i,v,n,hv,hn,hk⟩)⟩
 ·rcases hget i v n hv hn with ⟨h1,h2⟩|⟨rfl,rfl⟩
  ·exact (h.holds i v n h1 h2).mono (Grows.push e u)
  ·exact hb
 ·rcases hget i v n hv hn with ⟨h1,h2⟩|⟨rfl,rfl⟩
  ·exact h.lt i v n h1 h2 k hk
  ·exact hlt k hk
 ·rw [hmu i v n hv hn] at hm;cases hm
 ·rw [hmu i v n hv hn] at hm;cases hm
theorem rs_lt {w:World} {sz n:Nat} {u:Value} {vals:List Value} (h:Rs w sz u n vals) (hn:n≠0) (hs:0<sz) {k:Nat} (hk:u.ownBlock=some k):k<w.heap.size:=by
 obtain ⟨hl,ao,cap,rfl,h2,h3,h4,h5⟩:=h
 cases ao with
 |none=>cases hk
 |some a=>
  have hlt:0<vals.length:=by rw [hl];exact Nat.mul_pos (by omega) hs
  have:=h5 a rfl 0 _ (List.getElem?_eq_getElem hlt)
  have hb:=World.block_lt_of_cell? w _ this
  rw [add_block] at hb
  cases hk
  exact hb
theorem vw_lt {w:World} {u:Value} {ks:List Bool} {R:List Rw} (h:dkHolds (.vw ks R) w u):∀ k,Id'.foot (.ext (.vw ks R)) w u k→k<w.heap.size:=fun k ⟨h1,h2⟩=>rs_lt h.2 (fun e=>h1 (List.eq_nil_of_length_eq_zero e)) h.1 h2
theorem vw_of {w:World} {ks:List Bool} (hk:0<ks.length) {ao:Option Addr} {len cap:Nat} {R:List Rw} (hl:R.length=len) (h1:len≤cap) (h2:cap≤9223372036854775807) (h3:ao=none→cap=0)
  (hd:∀ i (r:Rw),R[i]? =some r→∃ b o,ao=some ⟨b,o,none⟩∧∀ j,j<ks.length→w.cell? ⟨b,o+i * ks.length+j,none⟩=(rwV ks r)[j]?):dkHolds (.vw ks R) w (.slice ao len cap):=by
 have hlen:∀ r∈R.map (rwV ks),r.length=ks.length:=fun r hr=>by obtain ⟨x,_,rfl⟩:=List.mem_map.1 hr;exact rwV_len ks x
 have hfl:((R.map (rwV ks)).flatten).length=R.length * ks.length:=by rw [flat_len hlen,List.length_map]
 refine ⟨hk,hfl,ao,cap,by rw [hl],by rw [hl];exact h1,h2,h3,fun a ha p u hu=>?_⟩
 have hp:p<R.length * ks.length:=by rw [← hfl];exact (List.getElem?_eq_some_iff.1 hu).1
 have hi:p / ks.length<R.length:=Nat.div_lt_of_lt_mul (by rw [Nat.mul_comm];exact hp)
 have hj:p % ks.length<ks.length:=Nat.mod_lt _ hk
 have hpe:p / ks.length * ks.length+p % ks.length=p:=by rw [Nat.mul_comm];exact Nat.div_add_mod p ks.length
 obtain ⟨b,o,e,hc⟩:=hd _ _ (List.getElem?_eq_getElem hi)
 subst ha
 cases e
 have hv:(rwV ks R[p / ks.length])[p % ks.length]? =some u:=by
  have h5:=flat_get hlen (i:=p / ks.length) (j:=p % ks.length) (r:=rwV ks R[p / ks.length]) (v:=(rwV ks R[p / ks.length])[p % ks.length]'(by rw [rwV_len];exact hj)) (by rw [List.getElem?_map,List.getElem?_eq_getElem hi];rfl) (List.getElem?_eq_getElem _)
  rw [hpe,hu] at h5
  rw [h5]
  exact List.getElem?_eq_getElem _
 rw [Addr.add_mid]
 have:=hc _ hj
 rw [Nat.add_assoc,hpe,hv] at this
 exact this
section
variable {H:Type} {enc:TypeId×Value→H} {W:World}
theorem read_fileR {cs:List Value} {fuel:Nat} {x:DataW H×List MemPlace} (hl:cs.length=2) (h:DataW.trod enc Try.prog W 0 (fun _=>true) true fuel 57 cs=some x):
  ∃ a b:Int,cs=[.int .i64 a,.int .i64 b]:=by
 obtain ⟨c0,c1,rfl⟩:∃ a b,cs=[a,b]:=by
  match cs,hl with
  |[a,b],_=>exact ⟨a,b,rfl⟩
 obtain ⟨xs,n,_,_,_,hx,hf⟩:=DataW.trod_struct Try.underlying57 h
 have hx4:xs.length=2:=hx
 have f0:=hf 0 _ rfl
 have f1:=hf 1 _ rfl
 rw [List.getElem?_eq_getElem (by omega)] at f0 f1
 obtain ⟨k,e0,_,_⟩:=DataW.trod_int Try.underlying3 f0
 obtain ⟨t,e1,_,_⟩:=DataW.trod_int Try.underlying3 f1
 have ci:Try.prog.cellsOf 3=1:=by kernel_rfl
 have g0:c0=.int .i64 k:=by simpa [ci] using e0
 have g1:c1=.int .i64 t:=by simpa [ci] using e1
 exact ⟨k,t,by rw [g0,g1]⟩
theorem read_entR {cs:List Value} {fuel:Nat} {x:DataW H×List MemPlace} (hl:cs.length=4) (h:DataW.trod enc Try.prog W 0 (fun _=>true) true fuel 109 cs=some x):
  ∃ d:Rw,cs=rwV [true,false,false,false] d∧(d.ss.getD 0 ⟨#[]⟩).size≤9223372036854775807:=by
 obtain ⟨c0,c1,c2,c3,rfl⟩:∃ a b c e,cs=[a,b,c,e]:=by
  match cs,hl with
  |[a,b,c,e],_=>exact ⟨a,b,c,e,rfl⟩
 obtain ⟨xs,n,_,_,_,hx,hf⟩:=DataW.trod_struct Try.underlying109 h
 have hx4:xs.length=3:=hx
 have f0:=hf 0 _ rfl
 have f1:=hf 1 _ rfl
 have f2:=hf 2 _ rfl
 rw [List.getElem?_eq_getElem (by omega)] at f0 f1 f2
 have ci:Try.prog.cellsOf 3=1:=by kernel_rfl
 have cf:Try.prog.cellsOf 57=2:=by kernel_rfl
 have cz:Try.prog.cellsOf 9=1:=by kernel_rfl
 obtain ⟨s,e0,_,w0⟩:=DataW.trod_string Try.underlying9 f0
 obtain ⟨a,b,e1⟩:=read_fileR (by simp [cf]) f1
 obtain ⟨k,e2,_,_⟩:=DataW.trod_int Try.underlying3 f2
 have g0:c0=.string s:=by simpa [cz] using e0
 have g1:c1=.int .i64 a∧c2=.int .i64 b:=by simpa [cf] using e1
 have g2:c3=.int .i64 k:=by simpa [ci] using e2
 exact ⟨⟨[a,b,k],[s]⟩,by rw [g0,g1.1,g1.2,g2];rfl,by simpa [maxLen] using w0⟩
def EntsIs (w:World) (u:Value) (R:List Rw):Prop:=dkHolds (.vw [true,false,false,false] R) w u
theorem read_ents {cs:List Value} {fuel:Nat} {x:DataW H×List MemPlace} (h:DataW.trod enc Try.prog W 0 (fun _=>true) true fuel 93 cs=some x):∃ v l,cs=[v]∧EntsIs W v l:=by
 obtain ⟨ao,len,cap,rfl,h1,h2,h3,h4⟩:=read_slice (c:=4) Try.underlying93 (by kernel_rfl) (by decide) h
 obtain ⟨ds,hl,hd⟩:=list_of_lt (p:=fun i (d:Rw)=>∃ b o,ao=some ⟨b,o,none⟩∧∀ j,j<4→W.cell? ⟨b,o+i * 4+j,none⟩=(rwV [true,false,false,false] d)[j]?) len fun i hi=>by
  obtain ⟨b,o,cs',f,y,e1,e2,e3,e4⟩:=h4 i hi
  obtain ⟨d,rfl,_⟩:=read_entR e2 e4
  exact ⟨d,b,o,e1,e3⟩
 exact ⟨_,ds,rfl,vw_of (by decide) hl h1 h2 h3 fun i r hr=>hd i r hr⟩
end
end Go.Proofs.Ytdenmoiaiemokaa
set_option linter.unusedVariables false
set_option linter.unusedSimpArgs false
namespace Go.Proofs.Ytdenmoiaiemokaa
open Go.RowKit
set_option maxRecDepth 100000 in
theorem dbl_n (R R2:List Rw) (L:List (List UInt8)) (i i2:Int) (k:Nat) (f:Nat→Value) (h0:decide (i<((TB.bs L).n:Int))=true) (h1:IntKind.i64.wrap (i+1)=i2) (h2:0≤i∧i.toNat<(TB.bs L).n) (h3:eqU L L (i)=true):∃ qs,alN Id' 4 [(7,.c (.one (.v (.int .i64 i2))))] [⟨.us (.ext (.vw [true,false,false,false] R)),false⟩,⟨.us (.ext (.vw [true,false,false,false] R2)),false⟩,⟨.us (.ext (.tab (.bs L))),true⟩,⟨.us (.ext (.tab (.bs L))),true⟩] ((symC (⟨Try.prog,[F_rsame (ξ:=Dk)],[],dkHo,Id'.one,60⟩:Sy Td) [(100009,qG (⟨Try.prog,[F_rsame (ξ:=Dk)],[],dkHo,Id'.one,60⟩:Sy Td) 47 (opsQ 9 (bodyOf Try.f7)))] 47 (hdC (loopsC (bodyOf Try.f7)) 0) ⟨[(7,.c (.one (.v (.int .i64 i))))]++anyB' (writesC (hdC (loopsC (bodyOf Try.f7)) 0)) ([(3,.c (.one (.obj 2))),(5,.c (.one (.obj 3)))]++tabV f 47),[⟨.us (.ext (.vw [true,false,false,false] R)),false⟩,⟨.us (.ext (.vw [true,false,false,false] R2)),false⟩,⟨.us (.ext (.tab (.bs L))),true⟩,⟨.us (.ext (.tab (.bs L))),true⟩],0⟩).al [true,false])=some qs∧∀ q∈qs,q:=
 ⟨[decide (i<(↑(TB.bs L).n:Int))=true,(0:Int)≤i∧i.toNat<(TB.bs L).n,(0:Int)≤i∧i.toNat<(TB.bs L).n,(!decide ((TB.bs L).byt i=(TB.bs L).byt i))=false,Th.ext (Dk.vw [true,false,false,false] R)=Th.ext (Dk.vw [true,false,false,false] R),Th.ext (Dk.vw [true,false,false,false] R2)=Th.ext (Dk.vw [true,false,false,false] R2),Th.ext (Dk.tab (TB.bs L))=Th.ext (Dk.tab (TB.bs L)),Th.ext (Dk.tab (TB.bs L))=Th.ext (Dk.tab (TB.bs L)),Value.int IntKind.i64 (IntKind.i64.wrap (i+(1:Int)))=Value.int IntKind.i64 i2],by kernel_rfl,(by refine mcons ?_ (mcons ?_ (mcons ?_ (mcons ?_ (mcons ?_ (mcons ?_ (mcons ?_ (mcons ?_ (mcons ?_ mnil))))))))<;>first|rfl|exact h0|exact h1|exact h2|exact h3|trivial|(exact congrArg _ h1)|(exact h2)|(exact ⟨h2.1,h2.2⟩)|(exact congrArg (! ·) h3))⟩
set_option maxRecDepth 100000 in
theorem dbl_x (R R2:List Rw) (L:List (List UInt8)) (i i2:Int) (k:Nat) (f:Nat→Value) (h0:decide (i<((TB.bs L).n:Int))=false):∃ qs,alX Id' 4 0 [] [⟨.us (.ext (.vw [true,false,false,false] R)),false⟩,⟨.us (.ext (.vw [true,false,false,false] R2)),false⟩,⟨.us (.ext (.tab (.bs L))),true⟩,⟨.us (.ext (.tab (.bs L))),true⟩] ((symC (⟨Try.prog,[F_rsame (ξ:=Dk)],[],dkHo,Id'.one,60⟩:Sy Td) [(100009,qG (⟨Try.prog,[F_rsame (ξ:=Dk)],[],dkHo,Id'.one,60⟩:Sy Td) 47 (opsQ 9 (bodyOf Try.f7)))] 47 (hdC (loopsC (bodyOf Try.f7)) 0) ⟨[(7,.c (.one (.v (.int .i64 i))))]++anyB' (writesC (hdC (loopsC (bodyOf Try.f7)) 0)) ([(3,.c (.one (.obj 2))),(5,.c (.one (.obj 3)))]++tabV f 47),[⟨.us (.ext (.vw [true,false,false,false] R)),false⟩,⟨.us (.ext (.vw [true,false,false,false] R2)),false⟩,⟨.us (.ext (.tab (.bs L))),true⟩,⟨.us (.ext (.tab (.bs L))),true⟩],0⟩).al [false])=some qs∧∀ q∈qs,q:=
 ⟨[decide (i<(↑(TB.bs L).n:Int))=false,Th.ext (Dk.vw [true,false,false,false] R)=Th.ext (Dk.vw [true,false,false,false] R),Th.ext (Dk.vw [true,false,false,false] R2)=Th.ext (Dk.vw [true,false,false,false] R2),Th.ext (Dk.tab (TB.bs L))=Th.ext (Dk.tab (TB.bs L)),Th.ext (Dk.tab (TB.bs L))=Th.ext (Dk.tab (TB.bs L))],by kernel_rfl,(by refine mcons ?_ (mcons ?_ (mcons ?_ (mcons ?_ (mcons ?_ mnil))))<;>first|rfl|exact h0|trivial|(exact congrArg _ h1)|(exact h2)|(exact ⟨h2.1,h2.2⟩)|(exact congrArg (! ·) h3))⟩
set_option maxRecDepth 100000 in
theorem dbl_lpA (R R2:List Rw) (L:List (List UInt8)) (hL:(TB.bs L).n≤100000)  (hall:∀ i:Int,0≤i→i.toNat<(TB.bs L).n→eqU L L (i)=true) {W0:World} {G:Nat→Prop} (S0:Sy Td) (hS0:S0.P=Try.prog):LoopSound S0 Id' W0 G 47 (hdC (loopsC (bodyOf Try.f7)) 0) (lpG Id' 47 (hdC (loopsC (bodyOf Try.f7)) 0) 4 [(7,.c (.one (.v (.int .i64 ((0+0:Nat):Int)))))] [(3,.c (.one (.obj 2))),(5,.c (.one (.obj 3)))] [⟨.us (.ext (.vw [true,false,false,false] R)),false⟩,⟨.us (.ext (.vw [true,false,false,false] R2)),false⟩,⟨.us (.ext (.tab (.bs L))),true⟩,⟨.us (.ext (.tab (.bs L))),true⟩] (.leaf (.exit 0) [] [⟨.us (.ext (.vw [true,false,false,false] R)),false⟩,⟨.us (.ext (.vw [true,false,false,false] R2)),false⟩,⟨.us (.ext (.tab (.bs L))),true⟩,⟨.us (.ext (.tab (.bs L))),true⟩])):=by
 refine lp_sound (V:=fun k=>[(7,.c (.one (.v (.int .i64 ((k+0:Nat):Int)))))]) (M:=(fun k=>[⟨.us (.ext (.vw [true,false,false,false] R)),false⟩,⟨.us (.ext (.vw [true,false,false,false] R2)),false⟩,⟨.us (.ext (.tab (.bs L))),true⟩,⟨.us (.ext (.tab (.bs L))),true⟩]:Nat→Mem Td)) (N:=(TB.bs L).n) (Ux:=fun k x=>match x with|.exit 0=>some ([],([⟨.us (.ext (.vw [true,false,false,false] R)),false⟩,⟨.us (.ext (.vw [true,false,false,false] R2)),false⟩,⟨.us (.ext (.tab (.bs L))),true⟩,⟨.us (.ext (.tab (.bs L))),true⟩]:Mem Td))|_=>none) (X:=fun _ _=>True) (J:=fun k=>True) (fun k=>by kernel_rfl) trivial (fun k hk hJ f=>?_) (fun K hK k x U hk hU hX=>?_)
 ·rw [hS0]
  cases hT:decide (((k+0:Nat):Int)<((TB.bs L).n:Int)) with
  |false=>
   (obtain ⟨ps,g1,g2⟩:=dbl_x R R2 L ((k+0:Nat):Int) ((k+1+0:Nat):Int) k f hT;exact rnd_x (⟨Try.prog,[F_rsame (ξ:=Dk)],[],dkHo,Id'.one,60⟩:Sy Td) [(100009,qG (⟨Try.prog,[F_rsame (ξ:=Dk)],[],dkHo,Id'.one,60⟩:Sy Td) 47 (opsQ 9 (bodyOf Try.f7)))] rfl ((fun (W0:World) (G:Nat→Prop)=>SyOk.mk2 Try.mixed dkHo_ok (FnsR.cons (F_rsame_ok (J:=dkI) (hx:=hardDk)) (FnsR.nil)) EqsOk.nil) W0 G) (LpsOk.cons (by kernel_rfl) (qG_sound (id:=9) ((fun (W0:World) (G:Nat→Prop)=>SyOk.mk2 Try.mixed dkHo_ok (FnsR.cons (F_rsame_ok (J:=dkI) (hx:=hardDk)) (FnsR.nil)) EqsOk.nil) W0 G) rfl rfl (by kernel_rfl)) (LpsOk.nil _)) (m2:=_) (fun w e h=>h) [false] 0 ps g1 g2 rfl trivial)
  |true=>
   have hk1:=of_decide_eq_true hT
   have hW:IntKind.i64.wrap (((k+0:Nat):Int)+1)=((k+1+0:Nat):Int):=by rw [IntWalk.i64_in _ (by omega)];omega
   (obtain ⟨ps,g1,g2⟩:=dbl_n R R2 L ((k+0:Nat):Int) ((k+1+0:Nat):Int) k f hT hW (by omega) (hall _ (by omega) (by omega));exact rnd_n (⟨Try.prog,[F_rsame (ξ:=Dk)],[],dkHo,Id'.one,60⟩:Sy Td) [(100009,qG (⟨Try.prog,[F_rsame (ξ:=Dk)],[],dkHo,Id'.one,60⟩:Sy Td) 47 (opsQ 9 (bodyOf Try.f7)))] rfl ((fun (W0:World) (G:Nat→Prop)=>SyOk.mk2 Try.mixed dkHo_ok (FnsR.cons (F_rsame_ok (J:=dkI) (hx:=hardDk)) (FnsR.nil)) EqsOk.nil) W0 G) (LpsOk.cons (by kernel_rfl) (qG_sound (id:=9) ((fun (W0:World) (G:Nat→Prop)=>SyOk.mk2 Try.mixed dkHo_ok (FnsR.cons (F_rsame_ok (J:=dkI) (hx:=hardDk)) (FnsR.nil)) EqsOk.nil) W0 G) rfl rfl (by kernel_rfl)) (LpsOk.nil _)) (m2:=_) (fun w e h=>h) [true,false] ps g1 g2 rfl rfl (by omega) trivial)
 ·revert hU
  match x with
  |.exit 0=>intro hU;simp only [Option.some.injEq] at hU;subst hU;exact hK
  |.normal=>intro hU;cases hU
  |.ret=>intro hU;cases hU
  |.exit (n+1)=>intro hU;cases hU
set_option maxRecDepth 100000 in
theorem dirb_w0 (R R2:List Rw) (L:List (List UInt8)) (e:Int) (h0:FewIs R 30 R2) (h1:R2.length≤(1000:Nat)) (h2:DbIs R2 L e) (h3:NmsOk R2) (h4:RbIs R2 L e) (h5:((((TB.bs L).n:Int) != ((TB.bs L).n:Int))||e != e)=false):∃ qs,wayO Id' ([⟨.us (.ext (.vw [true,false,false,false] R)),false⟩]:Mem Td).length [⟨.us (.ext (.vw [true,false,false,false] R)),false⟩] (svV (.bool true)) ((runFn (⟨Try.prog,[(57,ctrF Id' (C_fewN R2) hardD),(58,ctrF Id' (C_dblkN L e) hardD),(59,ctrF Id' (C_rblkN L e) hardD),(60,ctrF Id' C_lives hardD)],[],dkHo,Id'.one,60⟩:Sy Td) [(100002,mapG (modAt wkE 1) (⟨Try.prog,[(58,ctrF Id' (C_dblkN L e) hardD)],[],dkHo,Id'.one,60⟩:Sy Td) 47 (regO 2 (bodyOf Try.f7)) (drwR 2 (bodyOf Try.f7))),(7,(lpG Id' 47 (hdC (loopsC (bodyOf Try.f7)) 0) 4 [(7,.c (.one (.v (.int .i64 ((0+0:Nat):Int)))))] [(3,.c (.one (.obj 2))),(5,.c (.one (.obj 3)))] [⟨.us (.ext (.vw [true,false,false,false] R)),false⟩,⟨.us (.ext (.vw [true,false,false,false] R2)),false⟩,⟨.us (.ext (.tab (.bs L))),true⟩,⟨.us (.ext (.tab (.bs L))),true⟩] (.leaf (.exit 0) [] [⟨.us (.ext (.vw [true,false,false,false] R)),false⟩,⟨.us (.ext (.vw [true,false,false,false] R2)),false⟩,⟨.us (.ext (.tab (.bs L))),true⟩,⟨.us (.ext (.tab (.bs L))),true⟩])))] Try.f7 [.one (.obj 0)] [⟨.us (.ext (.vw [true,false,false,false] R)),false⟩]).al [false])=some qs∧∀ q∈qs,q:=
 ⟨[(0:Int)≤(30:Int)∧(30:Int)≤(1000:Int),FewIs R (30:Int) R2,R2.length≤(1000:Nat),DbIs R2 L e,R2.length≤(1000:Nat),NmsOk R2,RbIs R2 L e,((↑(TB.bs L).n:Int) != (↑(TB.bs L).n:Int)||e != e)=false,Th.ext (Dk.vw [true,false,false,false] R)=Th.ext (Dk.vw [true,false,false,false] R),Th.ext (Dk.vw [true,false,false,false] R2)=Th.ext (Dk.vw [true,false,false,false] R2),Th.ext (Dk.tab (TB.bs L))=Th.ext (Dk.tab (TB.bs L)),Th.ext (Dk.tab (TB.bs L))=Th.ext (Dk.tab (TB.bs L)),Value.int IntKind.i64 (Int.ofNat 0)=Value.int IntKind.i64 (Int.ofNat ((0:Nat)+(0:Nat))),Th.ext (Dk.vw [true,false,false,false] R)=Th.ext (Dk.vw [true,false,false,false] R),Value.bool true=Value.bool true],by kernel_rfl,(by refine mcons ?_ (mcons ?_ (mcons ?_ (mcons ?_ (mcons ?_ (mcons ?_ (mcons ?_ (mcons ?_ (mcons ?_ (mcons ?_ (mcons ?_ (mcons ?_ (mcons ?_ (mcons ?_ (mcons ?_ mnil))))))))))))))<;>first|rfl|exact h0|exact h1|exact h2|exact h3|exact h4|exact h5|trivial|(exact ⟨by decide,by decide⟩))⟩
theorem fewR_len (R:List Rw) (n:Int):(fewR R n).length≤n.toNat:=by unfold fewR;rw [fewK_len];omega
theorem shortT_len (s:ByteArray) (n:Nat):(shortT s n).size≤n:=by
 unfold shortT
 show (s.data.toList.take n).toArray.size≤n
 rw [List.size_toArray];exact List.length_take_le ..
theorem fewK_nms (R:List Rw):∀ k,NmsOk (fewK R k)
 |0=>fun r hr=>by cases hr
 |k+1=>(fewK_nms R k).snoc (by
  show (shortT _ 20).size≤_
  exact Nat.le_trans (shortT_len _ _) (by decide))
theorem fewR_nms (R:List Rw) (n:Int):NmsOk (fewR R n):=fewK_nms R _
def C_dirb:Ctr Td:=fun us sub=>match us,sub with
 |[.one (.obj 0)],[⟨.us (.ext (.vw [true,false,false,false] R)),false⟩]=>some ([],svV (.bool true),[⟨.us (.ext (.vw [true,false,false,false] R)),false⟩])
 |_,_=>none
set_option maxRecDepth 100000 in
theorem C_dirb_ok:CtrOk Try.prog Id' 7 C_dirb:=by
 intro us sub ps x sm h hp w e vs hM ha
 unfold C_dirb at h
 split at h
 ·rename_i R
  simp only [Option.some.injEq,Prod.mk.injEq] at h
  obtain ⟨rfl,rfl,rfl⟩:=h
  have hl:=fewR_len R 30
  have hb:=dbB_len (fewR R 30)
  exact ctr_way (I:=Id') (fun (W0:World) (G:Nat→Prop)=>SyOk.mk2 Try.mixed dkHo_ok (FnsR.cons ((R_fewN (fewR R 30))) (FnsR.cons ((R_dblkN (dbB (fewR R 30)) (dbE (fewR R 30)))) (FnsR.cons ((R_rblkN (dbB (fewR R 30)) (dbE (fewR R 30)))) (FnsR.cons (R_lives) (FnsR.nil))))) EqsOk.nil) rfl Try.func7 (by kernel_rfl) (fun W0 G=>LpsOk.cons (by kernel_rfl) (mapG_sound (id:=2) ((fun (W0:World) (G:Nat→Prop)=>SyOk.mk2 Try.mixed dkHo_ok (FnsR.cons ((R_dblkN (dbB (fewR R 30)) (dbE (fewR R 30)))) (FnsR.nil)) EqsOk.nil) W0 G) rfl (fun w e mem h=>wk_ok (W0:=W0) (G:=G) 1 w e mem h)) (LpsOk.cons (by kernel_rfl) (dbl_lpA R (fewR R 30) (dbB (fewR R 30)) (by show (dbB (fewR R 30)).length≤100000;omega) (fun i _ _=>decide_eq_true rfl) _ rfl) (LpsOk.nil _))) (cs:=[false]) (by kernel_rfl) (dirb_w0 R (fewR R 30) (dbB (fewR R 30)) (dbE (fewR R 30)) ⟨rfl⟩ (by omega) ⟨rfl,rfl⟩ (fewR_nms R 30) ⟨(dbB_is _).symm,(dbE_is _).symm⟩ (by simp)) w e vs hM ha
 ·cases h
theorem dirBlocks_calls (v:Value) (R:List Rw) (W:World) (h:EntsIs W v R):Calls Try.prog 7 #[v] W fun e w'=>e=.returned (.bool true)∧Below W.heap.size W w':=by
 have hM:=args_us (args_nil Id' W) (fun n hn=>by cases hn) (b:=.ext (.vw [true,false,false,false] R)) (u:=v) h (vw_lt h)
 refine (C_dirb_ok [.one (.obj 0)] [⟨.us (.ext (.vw [true,false,false,false] R)),false⟩] [] (svV (.bool true)) _ rfl (fun q hq=>by cases hq) W [v] [v] hM ⟨rfl,trivial⟩).mono fun y w' ⟨u,e',h1,_,h2,h3⟩=>⟨h1.trans (congrArg _ h2),?_⟩
 have hx:Ext W w':=h3.mod.mono fun k _ hk=>by
  obtain ⟨i,_,n,_,hn,hmu,_⟩:=footE.1 hk
  cases i with
  |zero=>simp at hn;subst hn;cases hmu
  |succ i=>simp at hn
 exact hx.below
end Go.Proofs.Ytdenmoiaiemokaa
