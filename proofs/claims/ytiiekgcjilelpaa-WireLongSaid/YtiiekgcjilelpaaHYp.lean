/- HY. -/
import Derived.Test.YtiiekgcjilelpaaHXp
import Derived.Test.YtiiekgcjilelpaaH4p
import Derived.Test.YtiiekgcjilelpaaV2p
set_option linter.unusedSimpArgs false
set_option linter.unusedVariables false
namespace Go.Proofs.Ytiiekgcjilelpaa
open Go.RowKit
section
variable {W0:World} {G:Nat→Prop} {w w':World} {e:Env} {mem:Mem Td}
theorem aggsT_info {t n:Nat} (h:aggsT t=some n):(Try.prog.info? t).map (·.size)=some n:=by
 have:=aggsIn_mem h
 simp only [aggsL,List.mem_cons,Prod.mk.injEq,List.not_mem_nil,or_false] at this
 rcases this with ⟨rfl,rfl⟩|⟨rfl,rfl⟩|⟨rfl,rfl⟩|⟨rfl,rfl⟩|⟨rfl,rfl⟩
 all_goals first|exact (by clear h;exact (show Option.map (fun x:TypeInfo=>x.size) _=some _ by kernel_rfl))|decide +kernel
theorem rowT_zero {t x:Nat} {ks:List Bool} (h:rowT t=some (x,ks)):∃ z,pureSem Try.prog (zeroValue x)=some z∧z.cells.size=ks.length∧z.cells.toList=rwV ks Rw.zero:=by
 have:=rowIn_mem h
 simp only [rowsL,List.mem_cons,Prod.mk.injEq,List.not_mem_nil,or_false] at this
 rcases this with ⟨rfl,rfl,rfl⟩|⟨rfl,rfl,rfl⟩|⟨rfl,rfl,rfl⟩|⟨rfl,rfl,rfl⟩|⟨rfl,rfl,rfl⟩
 ·exact ⟨.agg #[.string ⟨#[]⟩,.int .i64 0,.int .i64 0,.int .i64 0],by kernel_rfl,rfl,by simp [Value.cells,Rw.zero,rwV,rwGo]⟩
 ·exact ⟨.agg #[.int .i64 0,.int .i64 0,.int .i64 0],by kernel_rfl,rfl,by simp [Value.cells,Rw.zero,rwV,rwGo]⟩
 ·exact ⟨.agg #[.int .i64 0,.int .i64 0,.int .i64 0],by kernel_rfl,rfl,by simp [Value.cells,Rw.zero,rwV,rwGo]⟩
 ·exact ⟨.agg #[.int .i64 0,.int .i64 0,.int .i64 0,.int .i64 0],by kernel_rfl,rfl,by simp [Value.cells,Rw.zero,rwV,rwGo]⟩
 ·exact ⟨.agg #[.int .i64 0,.int .i64 0],by kernel_rfl,rfl,by simp [Value.cells,Rw.zero,rwV,rwGo]⟩
def opSetR (t:TypeId) (us:List CV) (mem:Mem Td):OpD:=match us,aggsT t with
 |[.one (.elt i sz idx off),.agg pv],some n=>(match mem[i]?,allVal pv with
  |some ⟨.us (.ext (.flat (.rw x ks R))),true⟩,some vs=>(match rwMk ks vs,eqb sz ks.length&&(eqb off 0&&eqb n ks.length) with
   |some (is,ss),true=>some ([],svV undef,some (mem.set i ⟨.us (.ext (.flat (.rw x ks (R.set idx.toNat ⟨is,ss⟩)))),true⟩))
   |_,_=>none)
  |_,_=>none)
 |_,_=>none
theorem opSetR_ost {t:TypeId} {p:PV} {v:CV} {mem m':Mem Td} {ps:List Prop} {r:SV} (h:opSetR t [.one p,v] mem=some (ps,r,some m')):∃ i,placeP p=some i∧∀ j en,mem[j]? =some en→j≠i→m'[j]? =some en:=by
 unfold opSetR at h
 split at h
 ·rename_i i sz idx off pv n he hn
  cases he
  split at h
  ·split at h
   ·simp only [Option.some.injEq,Prod.mk.injEq] at h
    obtain ⟨_,_,rfl⟩:=h
    exact ⟨i,rfl,fun j en hj hne=>by rw [List.getElem?_set_ne (Ne.symm hne)];exact hj⟩
   ·cases h
  ·cases h
 ·cases h
theorem opSetR_ok {t:TypeId} {us:List CV} {ps:List Prop} {r:SV} {mo:Option (Mem Td)} (h:opSetR t us mem=some (ps,r,mo)) {o:Oper} {ρ:Operand→Value} {x y:Operand} (ho:o.op=.store t x y) (hM:MemOk W0 G Id' w e mem) (ha:AllC e us [ρ x,ρ y]):
  givesUpon Try.prog (fun v w'=>OutIs Id' W0 G w e r v w' mo) ((execOp ρ o).run Try.prog w):=by
 unfold opSetR at h
 split at h
 ·rename_i i sz idx off pv n hn
  obtain ⟨b,oo,nn,cap,hE,hi,hx⟩:=is_one ha.1
  obtain ⟨us',hu,hy⟩:=ha.2.1
  split at h
  ·rename_i x' ks R vs hm hvs
   have hus:=allVal_is hvs hu
   subst hus
   split at h
   ·rename_i is ss hmk hb
    rw [Bool.and_eq_true,Bool.and_eq_true] at hb
    obtain rfl:=eqb_eq.1 hb.1
    obtain rfl:=eqb_eq.1 hb.2.1
    obtain rfl:=eqb_eq.1 hb.2.2
    simp only [Option.some.injEq,Prod.mk.injEq] at h
    obtain ⟨rfl,rfl,rfl⟩:=h
    have hgo:rwV ks ⟨is,ss⟩=us':=rwMk_go [] [] hmk
    have hlen:us'.length=ks.length:=by rw [← hgo,rwV_len]
    have h1:∀ v∈us',v.oneCell'=true:=by rw [← hgo];exact rwGo_one ks 0 0
    obtain ⟨hnn,g,hg,_,h2,_⟩:=flat_el (hM.holds i _ _ hE hm) rfl hi
    cases hg
    obtain ⟨z0,B,hB,hown⟩:=hM.holds i _ _ hE hm
    have hi2:=hi.2
    subst hnn
    have h2:w.there b (idx.toNat * ks.length) ks.length:=h2
    have hst:=run_storeVar_mid (P:=Try.prog) w b (idx.toNat * ks.length) t us'.toArray (by rw [List.size_toArray,hlen];exact h2) (by rw [List.size_toArray,hlen];exact aggsT_info hn) (all_oneCell_toArray h1)
    have hsz:=(setCells_mod b us' (idx.toNat * ks.length) w).size
    have hnew:=owns_setEl z0 hown hi2 hlen
    have hset:(FL.rw x' ks (R.set idx.toNat ⟨is,ss⟩)).R=(FL.rw x' ks R).R.set idx.toNat us':=by
     simp only [FL.R,List.map_set]
     rw [hgo]
    have hx':ρ x=.pointer (some ⟨b,idx.toNat * ks.length,none⟩):=by rw [hx];simp
    refine store_fin (run_store ho hx' (by rw [hy];simpa using hst)) (hM.upd hE hm (setCells_mod' b _ _ w rfl) _ ?_ fun k hk=>?_)
    ·refine ⟨fun r hr=>?_,B,Nat.le_trans hB hsz,?_⟩
     ·rw [hset] at hr
      rcases List.mem_or_eq_of_mem_set hr with h|h
      ·exact z0 r h
      ·rw [h];exact hlen
     ·rw [hset]
      have:=hnew
      rw [List.length_set] at this ⊢
      exact this
    ·have hk':some b=some k:=hk
     cases hk'
     refine ⟨.inl rfl,?_⟩
     exact Nat.lt_of_lt_of_le (owns_block hown rfl).2 hsz
   ·cases h
  ·cases h
 ·cases h
theorem zeroCells_flat (z:Array Value) (m:Nat):(Builtin.zeroCells z m).toList=(List.replicate m z.toList).flatten:=by
 have hall:∀ r∈List.replicate m z.toList,r.length=z.size:=fun r hr=>by rw [List.eq_of_mem_replicate hr];simp
 have hl:=flat_len hall
 rw [List.length_replicate] at hl
 apply List.ext_getElem?
 intro q
 rcases Nat.lt_or_ge q (m * z.size) with hq|hq
 ·have hz:0<z.size:=by
   rcases Nat.eq_zero_or_pos z.size with h|h
   ·rw [h,Nat.mul_zero] at hq;omega
   ·exact h
  have hi:q / z.size<m:=Nat.div_lt_of_lt_mul (by rw [Nat.mul_comm];exact hq)
  have hj:q % z.size<z.size:=Nat.mod_lt _ hz
  have hqe:q / z.size * z.size+q % z.size=q:=by rw [Nat.mul_comm];exact Nat.div_add_mod q z.size
  have hg:=flat_get hall (i:=q / z.size) (j:=q % z.size) (r:=z.toList) (v:=z[q % z.size]) (by rw [List.getElem?_replicate,if_pos hi]) (by rw [Array.getElem?_toList,Array.getElem?_eq_getElem hj])
  rw [hqe] at hg
  rw [hg]
  simp [Builtin.zeroCells,hq,hj]
 ·rw [List.getElem?_eq_none (by rw [Array.length_toList,size_zeroCells];exact hq),List.getElem?_eq_none (by rw [hl];exact hq)]
theorem run_clear_part {P:Program} {w:World} {t ty e:TypeId} {size B g n cap lo c:Nat} {xs:List Value} {z:Value} (hu:P.underlying t=some (.slice e)) (hz:∀ w,(zeroValue e).run P w=.ok z w) (hzs:z.cells.size=size) (hz1:∀ u∈z.cells.toList,u.oneCell'=true)
  (hown:w.ownsRow B e size (.slice (some ⟨g,0,none⟩) n cap) n xs) (h0:lo<n):
  ∃ w',(Builtin.clear_ #[t] ty #[.slice (some ⟨g,lo * size,none⟩) (n - lo) c]).run P w=.ok (.tuple #[]) w'∧w'.ownsRow B e size (.slice (some ⟨g,0,none⟩) n cap) n (xs.take (lo * size)++(Builtin.zeroCells z.cells (n - lo)).toList)∧Mod (fun k=>k=g) w w':=by
 have hl:=hown.1
 rcases hown.2 with ⟨hn,_⟩|⟨g',cap',cur,hn,k1,k2,k3,k4,k5,k6⟩
 ·cases hn
 ·simp only [Value.slice.injEq,Option.some.injEq,Addr.mk.injEq] at hn
  obtain ⟨⟨rfl,_⟩,_,rfl⟩:=hn
  obtain ⟨m,hm⟩:∃ m,m=n - lo:=⟨_,rfl⟩
  rw [← hm]
  have hzl:(Builtin.zeroCells z.cells m).toList.length=m * size:=by rw [Array.length_toList,size_zeroCells,hzs]
  have hz1':∀ v∈(Builtin.zeroCells z.cells m).toList,v.oneCell'=true:=by
   intro v hv
   rw [zeroCells_flat] at hv
   obtain ⟨r,hr,hv⟩:=List.mem_flatten.1 hv
   rw [List.eq_of_mem_replicate hr] at hv
   exact hz1 v hv
  have hsum:lo * size+m * size=n * size:=by rw [← Nat.add_mul];congr 1;omega
  have hmc:n * size≤cap * size:=Nat.mul_le_mul_right _ k3
  have hst:=run_storeCells_at P g (lo * size) e (Builtin.zeroCells z.cells m).toList 0 cur w k2 (by rw [hzl,k5];omega) hz1'
  obtain ⟨m',rfl⟩:∃ m',m=m'+1:=⟨m - 1,by omega⟩
  have hA:(cur.toList.take (lo * size)).length=lo * size:=by rw [List.length_take,Array.length_toList,k5];omega
  refine ⟨w.setRow g (cur.toList.take (lo * size)++(Builtin.zeroCells z.cells (m'+1)).toList++cur.toList.drop (lo * size+(Builtin.zeroCells z.cells (m'+1)).toList.length)).toArray,by simp only [Nat.add_zero] at hst;simp [Builtin.clear_,run_underlying hu,hz,hst],⟨?_,.inr ⟨g,cap,_,rfl,k1,setRow_heap w g cur _ e _ k2,k3,k4,?_,?_⟩⟩,setRow_mod w g _⟩
  ·rw [List.length_append,hzl,List.length_take,hl];omega
  ·rw [List.size_toArray,List.length_append,List.length_append,hzl,hA,List.length_drop,Array.length_toList,k5]
   omega
  ·rw [List.toList_toArray,List.take_append_of_le_length (by rw [List.length_append,hzl,hA];omega),List.take_of_length_le (by rw [List.length_append,hzl,hA];omega),←k6,List.take_take]
   congr 2
   omega
def opClearR (ts:List TypeId) (us:List CV) (mem:Mem Td):OpD:=match ts,us with
 |[t],[.one (.sub i sz lo hi)]=>(match rowT t,mem[i]? with
  |some (x,ks),some ⟨.us (.ext (.flat (.rw x' ks' R))),true⟩=>(match eqb x x'&&(eqBs ks ks'&&eqb sz ks.length) with
   |true=>some ([hi=R.length],.tup [],some (mem.set i ⟨.us (.ext (.flat (.rw x ks (R.take lo++List.replicate (hi - lo) Rw.zero)))),true⟩))
   |false=>none)
  |_,_=>none)
 |_,_=>none
theorem opClearR_ok {xs:Array Operand} {ts:Array TypeId} {us:List CV} {ps:List Prop} {r:SV} {mo:Option (Mem Td)} (h:opClearR ts.toList us mem=some (ps,r,mo)) (hp:∀ p∈ps,p) {o:Oper} {ρ:Operand→Value} (ho:o.op=.call { callee:=.builtin .clear,args:=xs,argTypes:=ts }) (hM:MemOk W0 G Id' w e mem)
  (ha:AllC e us (o.op.operands.toList.map ρ)):givesUpon Try.prog (fun v w'=>OutIs Id' W0 G w e r v w' mo) ((execOp ρ o).run Try.prog w):=by
 unfold opClearR at h
 split at h
 ·rename_i t i sz lo hi hts
  have hts':ts=#[t]:=by rw [← Array.toArray_toList (xs:=ts),hts]
  subst hts'
  obtain ⟨u,he,hx⟩:=allC1 ha
  rw [ho] at he
  simp [Op.operands,Call.operands] at he
  obtain ⟨x,hxy,rfl⟩:=he
  have hxe:xs=#[x]:=by rw [← Array.toArray_toList (xs:=xs),hxy]
  subst hxe
  split at h
  ·rename_i x0 ks x0' ks' R ht hm
   split at h
   ·rename_i hb
    rw [Bool.and_eq_true,Bool.and_eq_true] at hb
    obtain rfl:=eqb_eq.1 hb.1
    obtain rfl:=eqBs_eq hb.2.1
    obtain rfl:=eqb_eq.1 hb.2.2
    simp only [Option.some.injEq,Prod.mk.injEq] at h
    obtain ⟨rfl,rfl,rfl⟩:=h
    have q1:hi=R.length:=hp _ (List.mem_cons_self ..)
    obtain ⟨ao,n,cap,hE,s1,s2,hxv⟩:=is_one hx
    obtain ⟨g1,_⟩:=rowT_und ht
    obtain ⟨z,z1,z2,z3⟩:=rowT_zero ht
    obtain ⟨z0,B,hB,hown⟩:=hM.holds i _ _ hE hm
    have hw:w.ownsRow B x0 ks.length (.slice ao n cap) R.length (R.map (rwV ks)).flatten:=by rw [FL.len] at hown;exact hown
    have hn:n=R.length:=by
     rcases hw.2 with ⟨h1,h2⟩|⟨g,c,cur,h1,_⟩
     ·cases h1;exact h2.symm
     ·cases h1;rfl
    subst hn
    have hfin:∀ {w2:World},(Builtin.clear_ #[t] o.type #[ρ x]).run Try.prog w=.ok (.tuple #[]) w2→(execOp ρ o).run Try.prog w=.ok (.value (.tuple #[])) w2:=fun hr=>by
     unfold execOp
     simp only [ho,resolve,invoke,builtin,Sem.run_bind,Sem.run_pure,Result.andThen_ok,List.map_toArray,List.map_cons,List.map_nil,hr]
    have hall:∀ {X:List Rw},∀ r∈X.map (rwV ks),r.length=ks.length:=fun r hr=>by obtain ⟨y,_,rfl⟩:=List.mem_map.1 hr;exact rwV_len ks y
    have htake:((R.map (rwV ks)).flatten).take (lo * ks.length)=((R.take lo).map (rwV ks)).flatten:=by
     have e1:R.map (rwV ks)=(R.take lo).map (rwV ks)++(R.drop lo).map (rwV ks):=by rw [← List.map_append,List.take_append_drop]
     rw [e1,List.flatten_append,List.take_left']
     rw [flat_len hall,List.length_map,List.length_take,Nat.min_eq_left (by omega)]
    have hzer:(Builtin.zeroCells z.cells (R.length - lo)).toList=((List.replicate (R.length - lo) Rw.zero).map (rwV ks)).flatten:=by
     rw [zeroCells_flat,z3,List.map_replicate]
    rcases Nat.lt_or_ge lo R.length with hlt|hge
    ·obtain ⟨g,rfl,hle⟩:∃ g,ao=some ⟨g,0,none⟩∧R.length≤cap:=by
      rcases hw.2 with ⟨h1,h2⟩|⟨g,c,cur,h1,_,_,h3,_⟩
      ·omega
      ·cases h1;exact ⟨g,rfl,h3⟩
     have hxv':ρ x=.slice (some ⟨g,lo * ks.length,none⟩) (R.length - lo) (cap - lo):=by
      rw [hxv,q1,if_neg (by omega)]
      simp [Addr.add]
      exact fun h=>h.symm
     obtain ⟨w2,hr,k1,k2⟩:=run_clear_part (ty:=o.type) (c:=cap - lo) g1 (fun w=>pureSem_run _ z1 w) z2 (by rw [z3];exact rwGo_one ks 0 0) hw hlt
     rw [← hxv'] at hr
     rw [hfin hr]
     rw [htake,hzer,←List.flatten_append,←List.map_append] at k1
     have hmd:Mod (fun k=>Own Id' w (.slice (some ⟨g,0,none⟩) R.length cap) (.us (.ext (.flat (.rw x0 ks R)))) k) w w2:=k2.mono fun k _ hk=>by subst hk;rfl
     have hlen:(R.take lo++List.replicate (hi - lo) Rw.zero).length=R.length:=by rw [List.length_append,List.length_take,List.length_replicate];omega
     refine ⟨e,Grows.refl e,⟨[],trivial,rfl⟩,hM.upd hE hm hmd _ ⟨fun r hr=>hall r hr,B,Nat.le_trans hB hmd.size,?_⟩ fun k hk=>?_⟩
     ·rw [FL.len]
      show w2.ownsRow B x0 ks.length _ (R.take lo++List.replicate (hi - lo) Rw.zero).length _
      rw [hlen,q1]
      exact k1
     ·have hk':some g=some k:=hk
      cases hk'
      exact ⟨.inl rfl,Nat.lt_of_lt_of_le (owns_block hown rfl).2 hmd.size⟩
    ·have hlo:R.length - lo=0:=by omega
     have hr:(Builtin.clear_ #[t] o.type #[ρ x]).run Try.prog w=.ok (.tuple #[]) w:=by
      rw [hxv,q1,hlo]
      cases hq:(if cap=lo then ao else ao.map (·.add (lo * ks.length))) with
      |none=>simp [Builtin.clear_,run_underlying g1]
      |some a=>simp [Builtin.clear_,run_underlying g1]
     rw [hfin hr]
     have hsame:R.take lo++List.replicate (hi - lo) Rw.zero=R:=by
      rw [q1,hlo,List.replicate_zero,List.append_nil,List.take_of_length_le (by omega)]
     rw [hsame]
     refine ⟨e,Grows.refl e,⟨[],trivial,rfl⟩,hM.upd hE hm (Mod.refl _ w) _ ⟨z0,B,hB,hown⟩ fun k hk=>⟨.inl hk,?_⟩⟩
     exact (owns_block hown hk).2
   ·cases h
  ·cases h
 ·cases h
end
end Go.Proofs.Ytiiekgcjilelpaa
