/- HW. -/
import Derived.Test.YtiiekgcjilelpaaH7p
import Derived.Laws.CopyRow
set_option linter.unusedSimpArgs false
set_option linter.unusedVariables false
namespace Go.Proofs.Ytiiekgcjilelpaa
open Go.RowKit
section
variable {W0:World} {G:Nat→Prop} {w w':World} {e:Env} {mem:Mem Td}
def winHi:List CV→Bool→Option Int
 |[],false=>some 128
 |[.one q],true=>(match valP q with|some (.int _ h)=>some h|_=>none)
 |_,_=>none
def isWin:List CV→Bool
 |[.one (.ptr _ off)]=>!eqb off 0
 |[.one (.elt _ _ _ _)]=>true
 |_=>false
def opWin (t:TypeId) (hi:Bool) (us:List CV):OpD:=match us with
 |.one p::rest=>(match eqb t 251,winHi rest hi,p with
  |true,some h,.elt i sz idx off=>some ([0≤h∧h≤128],.c (.one (.win i sz idx off h.toNat 128)),none)
  |true,some h,.ptr i off=>some ([0≤h∧h≤128],.c (.one (.win i 0 0 off h.toNat 128)),none)
  |_,_,_=>none)
 |_=>none
theorem run_win (b o:Nat) (w:World):(Instr.sliceAt 251 (.pointer (some ⟨b,o,none⟩)) none none none).run Try.prog w=.ok (.slice (some ⟨b,o,none⟩) 128 128) w:=pureSem_run _ (by kernel_rfl) w
theorem run_winH (b o:Nat) (k:IntKind) (h:Int) (hh:0≤h∧h≤128) (w:World):(Instr.sliceAt 251 (.pointer (some ⟨b,o,none⟩)) none (some (.int k h)) none).run Try.prog w=.ok (.slice (some ⟨b,o,none⟩) h.toNat 128) w:=by
 have hu:(underlying 251).run Try.prog w=.ok (.array 128 5) w:=run_underlying Try.underlying251 w
 have hs:(sizeOf 5).run Try.prog w=.ok 1 w:=pureSem_run _ (by kernel_rfl) w
 simp [Instr.sliceAt,hu,Instr.sliceBounds,run_sliceBound,hs,hh.1,hh.2,Instr.sureAddr,Addr.add]
theorem opWin_ok {t:TypeId} {us:List CV} {ps:List Prop} {r:SV} {mo:Option (Mem Td)} {hi:Option Operand} (h:opWin t hi.isSome us=some (ps,r,mo)) (hp:∀ p∈ps,p) {o:Oper} {ρ:Operand→Value} {x:Operand} (ho:o.op=.slice t x none hi none) (ha:AllC e us ((x::hi.toList).map ρ)):
  givesUpon Try.prog (fun v w'=>OutIs Id' W0 G w e r v w' mo) ((execOp ρ o).run Try.prog w):=by
 have key:∀ (b oo:Nat) (h:Int) (rest:List CV),winHi rest hi.isSome=some h→AllC e rest (hi.toList.map ρ)→0≤h∧h≤128→ρ x=.pointer (some ⟨b,oo,none⟩)→t=251→(execOp ρ o).run Try.prog w=.ok (.value (.slice (some ⟨b,oo,none⟩) h.toNat 128)) w:=fun b oo h rest hw hr hh hx ht=>by
  subst ht
  unfold execOp
  cases hi with
  |none=>
   have:rest=[]:=by cases rest with|nil=>rfl|cons _ _=>exact hr.elim
   subst this
   simp only [winHi,Option.isSome_none,Option.some.injEq] at hw
   subst hw
   simp only [ho,hx,Option.map_none]
   rw [Sem.run_bind,run_win]
   rfl
  |some y=>
   match rest,hr with
   |[c],⟨hc,_⟩=>
    cases c with
    |agg _=>simp [winHi] at hw
    |fn _ _=>simp [winHi] at hw
    |one q=>
     simp only [winHi,Option.isSome_some] at hw
     split at hw
     ·rename_i hv
      cases hw
      have hy:=valP_is hv hc
      simp only [ho,hx,Option.map_none,Option.map_some,hy]
      rw [Sem.run_bind,run_winH b oo _ _ hh]
      rfl
     ·cases hw
   |_::_::_,hr=>exact hr.2.elim
 unfold opWin at h
 split at h
 ·rename_i p rest
  obtain ⟨hx,hr⟩:=ha
  split at h
  ·rename_i hh i sz idx off ht hw
   simp only [Option.some.injEq,Prod.mk.injEq] at h
   obtain ⟨rfl,rfl,rfl⟩:=h
   obtain ⟨b,oo,n,cap,hE,hi',hx'⟩:=is_one hx
   rw [key b _ hh rest hw hr (hp _ (List.mem_cons_self ..)) hx' (eqb_eq.1 ht)]
   exact ⟨⟨_,b,oo,hE,.inr ⟨n,cap,rfl⟩,rfl⟩,Ext.refl w⟩
  ·rename_i hh i off ht hw
   simp only [Option.some.injEq,Prod.mk.injEq] at h
   obtain ⟨rfl,rfl,rfl⟩:=h
   obtain ⟨b,oo,hE,hx'⟩:=is_one hx
   rw [key b _ hh rest hw hr (hp _ (List.mem_cons_self ..)) hx' (eqb_eq.1 ht)]
   exact ⟨⟨_,b,oo,hE,.inl rfl,by simp⟩,Ext.refl w⟩
  ·cases h
 ·cases h
theorem owns_setPart {w:World} {B sz g cap:Nat} {t:TypeId} {R:List (List Value)} (hl:∀ r∈R,r.length=sz) (ho:w.ownsRow B t sz (.slice (some ⟨g,0,none⟩) R.length cap) R.length R.flatten) {i:Nat} (hi:i<R.length) {cs:List Value} (hc:cs.length≤sz):
  ∃ cur,w.heap[g]? =some (.cells cur t (0,0))∧i * sz+cs.length≤cur.size∧(w.setRow g (cur.toList.take (i * sz)++cs++cur.toList.drop (i * sz+cs.length)).toArray).ownsRow B t sz (.slice (some ⟨g,0,none⟩) (R.set i (cs++(R.getD i []).drop cs.length)).length cap) (R.set i (cs++(R.getD i []).drop cs.length)).length (R.set i (cs++(R.getD i []).drop cs.length)).flatten:=by
 obtain ⟨h1,h2⟩:=ho
 have hri:R[i]? =some (R.getD i []):=by rw [List.getD_eq_getElem?_getD,List.getElem?_eq_getElem hi];rfl
 have hlen:(R.getD i []).length=sz:=hl _ (List.mem_of_getElem? hri)
 have hX:(cs++(R.getD i []).drop cs.length).length=sz:=by rw [List.length_append,List.length_drop,hlen];omega
 have hl':∀ r∈R.set i (cs++(R.getD i []).drop cs.length),r.length=sz:=fun r hr=>by
  rcases List.mem_or_eq_of_mem_set hr with h|h
  ·exact hl r h
  ·rw [h];exact hX
 rcases h2 with ⟨h,_⟩|⟨g',cap',cur,he,hB,hg,hn,hcc,hs,ht⟩
 ·cases h
 ·cases he
  have hmul:i * sz+sz≤R.length * sz:=by
   have:=Nat.mul_le_mul_right sz (show i+1≤R.length by omega)
   rw [Nat.succ_mul] at this;omega
  have hcap:R.length * sz≤cap * sz:=Nat.mul_le_mul_right sz hn
  have hcl:cur.toList.length=cur.size:=Array.length_toList
  refine ⟨cur,hg,by omega,flat_len hl',.inr ⟨g,cap,_,rfl,hB,setRow_heap w g cur _ t _ hg,by simpa using hn,hcc,?_,?_⟩⟩
  ·rw [List.size_toArray]
   simp only [List.length_append,List.length_take,List.length_drop,hcl]
   omega
  ·apply List.ext_getElem?
   intro q
   rw [flat_set hX hl hi q,List.getElem?_take,List.length_set]
   by_cases hq:q<R.length * sz
   ·rw [if_pos hq]
    have hold:cur.toList[q]? =R.flatten[q]? :=by rw [← ht,List.getElem?_take,if_pos hq]
    by_cases hcond:i * sz≤q∧q<i * sz+sz
    ·rw [if_pos hcond]
     by_cases hq2:q<i * sz+cs.length
     ·rw [List.getElem?_append_left (by simp only [List.length_append,List.length_take,hcl];omega),List.getElem?_append_right (by simp only [List.length_take,hcl];omega),List.getElem?_append_left (by omega)]
      simp only [List.length_take,hcl]
      congr 1
      omega
     ·have hd:(R.getD i []).drop cs.length=(R.getD i []).drop cs.length:=rfl
      rw [List.getElem?_append_right (by simp only [List.length_append,List.length_take,hcl];omega),List.getElem?_append_right (by omega),List.getElem?_drop,List.getElem?_drop]
      simp only [List.length_append,List.length_take,hcl]
      rw [show i * sz+cs.length+(q - (min (i * sz) cur.size+cs.length))=q by omega,show cs.length+(q - i * sz - cs.length)=q - i * sz by omega,hold]
      have hlt:q - i * sz<(R.getD i []).length:=by omega
      have:=flat_get hl hri (j:=q - i * sz) (List.getElem?_eq_getElem hlt)
      rw [show i * sz+(q - i * sz)=q by omega] at this
      rw [this,List.getElem?_eq_getElem hlt]
    ·rw [if_neg hcond,←hold]
     by_cases hq2:q<i * sz
     ·rw [List.getElem?_append_left (by simp only [List.length_append,List.length_take,hcl];omega),List.getElem?_append_left (by simp only [List.length_take,hcl];omega),List.getElem?_take,if_pos hq2]
     ·rw [List.getElem?_append_right (by simp only [List.length_append,List.length_take,hcl];omega),List.getElem?_drop]
      simp only [List.length_append,List.length_take,hcl]
      congr 1
      omega
   ·rw [if_neg hq,if_neg (by omega),List.getElem?_eq_none (by rw [flat_len hl];omega)]
def opCopyD (ts:List TypeId) (us:List CV) (mem:Mem Td):OpD:=match us,ts with
 |[.one (.win i sz idx off n cap),.one (.win j sz' idx' off' m cap')],[t,t']=>(match mem[i]?,mem[j]?,eqb t 37&&(eqb t' 37&&(eqb sz 128&&(eqb off 0&&eqb sz' 0))) with
  |some ⟨.us (.ext (.flat (.secs L))),true⟩,some ⟨.us (.ext (.big vs)),_⟩,true=>
   some ([idxOk idx L.length∧n≤128∧n≤m∧off'+n≤vs.length,(vs.drop off').take n=(unb ((vs.drop off').take n)).map bv],svV (.int .i64 (n:Int)),some (mem.set i ⟨.us (.ext (.flat (.secs (L.set idx.toNat (unb ((vs.drop off').take n)++(L.getD idx.toNat []).drop n))))),true⟩))
  |_,_,_=>none)
 |_,_=>none
theorem opCopyD_ok {xs:Array Operand} {ts:Array TypeId} {us:List CV} {ps:List Prop} {r:SV} {mo:Option (Mem Td)} (h:opCopyD ts.toList us mem=some (ps,r,mo)) (hp:∀ p∈ps,p) {o:Oper} {ρ:Operand→Value} (ho:o.op=.call { callee:=.builtin .copy,args:=xs,argTypes:=ts }) (hM:MemOk W0 G Id' w e mem) (ha:AllC e us (o.op.operands.toList.map ρ)):
  givesUpon Try.prog (fun v w'=>OutIs Id' W0 G w e r v w' mo) ((execOp ρ o).run Try.prog w):=by
 unfold opCopyD at h
 split at h
 ·rename_i i sz idx off n cap j sz' idx' off' m cap' t t' hts
  split at h
  ·rename_i L vs mu hmi hmj hb
   simp only [Option.some.injEq,Prod.mk.injEq] at h
   obtain ⟨rfl,rfl,rfl⟩:=h
   obtain ⟨⟨q1,q2⟩,q3,q4,q5⟩:idxOk idx L.length∧n≤128∧n≤m∧off'+n≤vs.length:=hp _ (List.mem_cons_self ..)
   have q6:=hp _ (List.mem_cons_of_mem _ (List.mem_cons_self ..))
   simp only [Bool.and_eq_true] at hb
   obtain ⟨b1,b2,b3,b4,b5⟩:=hb
   obtain rfl:=eqb_eq.1 b1
   obtain rfl:=eqb_eq.1 b2
   obtain rfl:=eqb_eq.1 b3
   obtain rfl:=eqb_eq.1 b4
   obtain rfl:=eqb_eq.1 b5
   have hts':ts=#[37,37]:=by rw [← Array.toArray_toList (xs:=ts),hts]
   subst hts'
   obtain ⟨u,v,he,hx,hy⟩:=allC2 ha
   have hxl:(xs.toList.map ρ).length=2:=by
    rw [ho] at he
    simp [Op.operands,Call.operands] at he
    have:=congrArg List.length he
    simpa using this
   have hx2:∃ x y,xs.toList=[x,y]:=by
    match hq:xs.toList,hxl with
    |[x,y],_=>exact ⟨x,y,rfl⟩
   obtain ⟨x,y,hxy⟩:=hx2
   have hxe:xs=#[x,y]:=by rw [← Array.toArray_toList (xs:=xs),hxy]
   subst hxe
   rw [ho] at he
   simp [Op.operands,Call.operands] at he
   obtain ⟨rfl,rfl⟩:=he
   obtain ⟨X,b,oo,hE,hat,hxv⟩:=is_one hx
   obtain ⟨Y,b',oo',hE',hat',hyv⟩:=is_one hy
   obtain ⟨z0,B,hB,hown⟩:=hM.holds i _ _ hE hmi
   have z0:∀ r∈(FL.secs L).R,r.length=128:=z0
   have hRl:(FL.secs L).R.length=L.length:=FL.len _
   have hown:w.ownsRow B 251 128 X (FL.secs L).R.length (FL.secs L).R.flatten:=hown
   obtain ⟨h0,b2,t2,hYv,hbk⟩:=hM.holds j _ _ hE' hmj
   have hYb:b'=b2∧oo'=0:=by
    rw [hYv] at hat'
    rcases hat' with h|⟨_,_,h⟩
    ·cases h;exact ⟨rfl,rfl⟩
    ·cases h
   obtain ⟨rfl,rfl⟩:=hYb
   have hX:∃ cap2,X=.slice (some ⟨b,0,none⟩) (FL.secs L).R.length cap2∧oo=0:=by
    rcases hown.2 with ⟨hh,_⟩|⟨g,c,cur,hh,_⟩
    ·rw [hh] at hat
     rcases hat with h|⟨_,_,h⟩<;>cases h
    ·rw [hh] at hat
     rcases hat with h|⟨_,_,h⟩
     ·cases h
     ·cases h;exact ⟨c,hh,rfl⟩
   obtain ⟨cap2,rfl,rfl⟩:=hX
   obtain ⟨cs,hcd⟩:∃ cs,cs=(vs.drop off').take n:=⟨_,rfl⟩
   have hcs:cs.length=n:=by rw [hcd];simp only [List.length_take,List.length_drop];omega
   rw [← hcd] at q6
   obtain ⟨cur,k1,k2,k3⟩:=owns_setPart z0 hown (i:=idx.toNat) (by rw [hRl];exact q2) (cs:=cs) (by rw [hcs];exact q3)
   have hone:∀ v∈cs,v.oneCell'=true:=fun v hv=>h0 v (by rw [hcd] at hv;exact List.mem_of_mem_drop (List.mem_of_mem_take hv))
   have hsrc:∀ (jj:Nat) (v:Value),cs[jj]? =some v→w.cell? ((⟨b',off',none⟩:Addr).add jj)=some v:=fun jj v hv=>by
    rw [Addr.add_mid,cell_of_blk hbk,←Array.getElem?_toList]
    rw [hcd,List.getElem?_take,List.getElem?_drop] at hv
    split at hv
    ·exact hv
    ·cases hv
   obtain ⟨w2,hw2⟩:∃ w2,w2=w.setRow b (cur.toList.take (idx.toNat * 128)++cs++cur.toList.drop (idx.toNat * 128+cs.length)).toArray:=⟨_,rfl⟩
   have hrun:=run_copy_row (P:=Try.prog) w 37 37 o.type 5 b (idx.toNat * 128) n cap ⟨b',off',none⟩ m cap' cur _ cs Try.underlying37 (by kernel_rfl) k1 (by rw [hcs];show n=min m n;omega) hsrc (by exact k2) hone
   rw [← hw2,hcs] at hrun
   have hx3:ρ x=.slice (some ⟨b,idx.toNat * 128,none⟩) n cap:=by rw [hxv];simp
   have hy3:ρ y=.slice (some ⟨b',off',none⟩) m cap':=by rw [hyv];simp
   have hex:(execOp ρ o).run Try.prog w=.ok (.value (.int .i64 (n:Int))) w2:=by
    unfold execOp
    simp only [ho,resolve,invoke,builtin,Sem.run_bind,Sem.run_pure,Result.andThen_ok,List.map_toArray,List.map_cons,List.map_nil,hx3,hy3,hrun]
    rfl
   rw [hex]
   have hset:(FL.secs (L.set idx.toNat (unb cs++(L.getD idx.toNat []).drop n))).R=(FL.secs L).R.set idx.toNat (cs++((FL.secs L).R.getD idx.toNat []).drop cs.length):=by
    have h1:((FL.secs L).R.getD idx.toNat [])=(L.getD idx.toNat []).map bv:=by
     simp only [FL.R]
     rw [List.getD_eq_getElem?_getD,List.getD_eq_getElem?_getD,List.getElem?_map,List.getElem?_eq_getElem q2]
     rfl
    rw [h1,hcs]
    simp only [FL.R,List.map_set,List.map_append,List.map_drop]
    rw [← q6]
   have hmd:Mod (fun k=>Own Id' w (.slice (some ⟨b,0,none⟩) (FL.secs L).R.length cap2) (.us (.ext (.flat (.secs L)))) k) w w2:=by
    rw [hw2]
    exact (setRow_mod w b _).mono fun k _ hk=>by subst hk;rfl
   rw [← hw2] at k3
   rw [hcd] at hset k3
   refine ⟨e,Grows.refl e,rfl,hM.upd hE hmi hmd _ ?_ fun k hk=>?_⟩
   ·refine ⟨fun r hr=>?_,B,Nat.le_trans hB hmd.size,?_⟩
    ·rw [hset] at hr
     show r.length=128
     rcases List.mem_or_eq_of_mem_set hr with h|h
     ·exact z0 r h
     ·rw [h,←hcd,List.length_append,List.length_drop,hcs]
      have:((FL.secs L).R.getD idx.toNat []).length=128:=z0 _ (by rw [List.getD_eq_getElem?_getD,List.getElem?_eq_getElem (by rw [hRl];exact q2)];exact List.getElem_mem ..)
      omega
    ·rw [hset]
     rw [List.length_set] at k3 ⊢
     exact k3
   ·have hk':some b=some k:=hk
    cases hk'
    exact ⟨.inl rfl,Nat.lt_of_lt_of_le (owns_block hown rfl).2 hmd.size⟩
  ·cases h
 ·cases h
end
end Go.Proofs.Ytiiekgcjilelpaa
