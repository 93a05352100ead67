/- HM. -/
import Derived.Test.YtiiekgcjilelpaaHZp
import Derived.MapKept
import Derived.ChangeMaps4
open List renaming getElem?_eq_getElem → zaa, getD_eq_getElem?_getD → zaf, mem_cons_self → zal, length_set → zbb
set_option linter.unusedSimpArgs false
set_option linter.unusedVariables false
namespace Go.Proofs.Ytiiekgcjilelpaa
open Go.RowKit
section
variable {W0:World} {G:Nat→Prop} {w w':World} {e:Env} {mem:Mem Td}
def isMapT (t:TypeId):Bool:=false
 ||eqb t 209
def yno (t:TypeId) (us:List CV) (mem:Mem Td):OpD:=none
def yto (t:TypeId) (us:List CV) (mem:Mem Td):OpD:=none
def ytt (ts:List TypeId) (us:List CV) (mem:Mem Td):OpD:=none
def ynm (t:TypeId) (us:List CV) (mem:Mem Td):OpD:=none
def ytp (b:BinOp) (t:TypeId) (us:List CV) (mem:Mem Td):OpD:=none
theorem yvx {t:TypeId} {us:List CV} {ps:List Prop} {r:SV} {mo:Option (Mem Td)} (h:yno t us mem=some (ps,r,mo)) {o:Oper} {ρ:Operand→Value} {x y:Operand} (ho:o.op=.lookup t x y false) (hM:MemOk W0 G Id' w e mem) (ha:AllC e us [ρ x,ρ y]):
  yai Try.prog (fun v w'=>OutIs Id' W0 G w e r v w' mo) ((execOp ρ o).run Try.prog w):=by
 unfold yno at h
 cases h
theorem opPutM_ok {t:TypeId} {us:List CV} {ps:List Prop} {r:SV} {mo:Option (Mem Td)} (h:yto t us mem=some (ps,r,mo)) {o:Oper} {ρ:Operand→Value} {x y z:Operand} (ho:o.op=.mapUpdate t x y z) (hM:MemOk W0 G Id' w e mem) (ha:AllC e us [ρ x,ρ y,ρ z]):
  yai Try.prog (fun v w'=>OutIs Id' W0 G w e r v w' mo) ((execOp ρ o).run Try.prog w):=by
 unfold yto at h
 cases h
theorem opDelM_ok {xs:Array Operand} {ts:Array TypeId} {us:List CV} {ps:List Prop} {r:SV} {mo:Option (Mem Td)} (h:ytt ts.toList us mem=some (ps,r,mo)) {o:Oper} {ρ:Operand→Value} (ho:o.op=.call { callee:=.builtin .delete,args:=xs,argTypes:=ts }) (hM:MemOk W0 G Id' w e mem)
  (ha:AllC e us (o.op.operands.toList.map ρ)):yai Try.prog (fun v w'=>OutIs Id' W0 G w e r v w' mo) ((execOp ρ o).run Try.prog w):=by
 unfold ytt at h
 cases h
theorem yvu {t:TypeId} {us:List CV} {ps:List Prop} {r:SV} {mo:Option (Mem Td)} (h:ynm t us mem=some (ps,r,mo)) {o:Oper} {ρ:Operand→Value} (ho:o.op=.makeMap t none) (hM:MemOk W0 G Id' w e mem):
  yai Try.prog (fun v w'=>OutIs Id' W0 G w e r v w' mo) ((execOp ρ o).run Try.prog w):=by
 unfold ynm at h
 cases h
theorem opNilM_ok {b:BinOp} {t:TypeId} {us:List CV} {ps:List Prop} {r:SV} {mo:Option (Mem Td)} (h:ytp b t us mem=some (ps,r,mo)) {o:Oper} {ρ:Operand→Value} {x y:Operand} {ty':TypeId} (ho:o.op=.binOp b t x y ty') (hM:MemOk W0 G Id' w e mem) (ha:AllC e us [ρ x,ρ y]):
  yai Try.prog (fun v w'=>OutIs Id' W0 G w e r v w' mo) ((execOp ρ o).run Try.prog w):=by
 unfold ytp at h
 cases h
theorem yp6 {α:Type} {sz:Nat} {v:α}:∀ {R:List (List α)},(∀ r∈R,r.length=sz)→∀ {i j:Nat},i<R.length→j<sz→R.flatten.set (i * sz+j) v=(R.set i ((R.getD i []).set j v)).flatten
 |[],_,i,j,hi,_=>by simp at hi
 |r::R,h,0,j,_,hj=>by
  have h1:=h r (zal ..)
  simp only [Nat.zero_mul,Nat.zero_add,List.flatten_cons,List.set_cons_zero,List.getD_cons_zero]
  rw [List.set_append_left _ _ (by omega)]
 |r::R,h,i+1,j,hi,hj=>by
  have h1:=h r (zal ..)
  have ih:=yp6 (v:=v) (fun r' hr=>h r' (List.mem_cons_of_mem _ hr)) (i:=i) (by simpa using hi) hj
  rw [List.flatten_cons,List.set_append_right _ _ (by rw [h1,Nat.add_mul];omega),List.set_cons_succ,List.flatten_cons,List.getD_cons_succ,←ih]
  congr 2
  rw [h1,Nat.add_mul];omega
theorem get_someM {α:Type} {l:List α} {n:Nat} {d:α} (h:n<l.length):l[n]? =some (l.getD n d):=by rw [zaf,zaa h];rfl
def ykb (t:TypeId) (us:List CV) (mem:Mem Td):OpD:=match us,eqb t 3 with
 |[.one (.elt i sz idx off),.one p],true=>(match mem[i]?,valP p with
  |some ⟨.us (.ext (.flat (.rw x ks R))),true⟩,some (.int .i64 a)=>(match rwMk ks ((rwV ks (R.getD idx.toNat Rw.zero)).set off (.int .i64 a)),eqb sz ks.length&&leb (off+1) ks.length with
   |some (is,ss),true=>some ([],svV undef,some (mem.set i ⟨.us (.ext (.flat (.rw x ks (R.set idx.toNat ⟨is,ss⟩)))),true⟩))
   |_,_=>none)
  |_,_=>none)
 |_,_=>none
theorem yvs {t:TypeId} {p:PV} {v:CV} {mem m':Mem Td} {ps:List Prop} {r:SV} (h:ykb t [.one p,v] mem=some (ps,r,some m')):∃ i,ycd p=some i∧∀ j en,mem[j]? =some en→j≠i→m'[j]? =some en:=by
 unfold ykb at h
 split at h
 ·rename_i i sz idx off q he hn
  cases he
  split at h
  ·split at h
   ·simp only [Option.some.injEq,Prod.mk.injEq] at h
    obtain ⟨_,_,rfl⟩:=h
    exact ⟨i,rfl,fun j en hj hne=>by rw [List.getElem?_set_ne (Ne.symm hne)];exact hj⟩
   ·cases h
  ·cases h
 ·cases h
theorem opSetC_ok {t:TypeId} {us:List CV} {ps:List Prop} {r:SV} {mo:Option (Mem Td)} (h:ykb t us mem=some (ps,r,mo)) {o:Oper} {ρ:Operand→Value} {x y:Operand} (ho:o.op=.store t x y) (hM:MemOk W0 G Id' w e mem) (ha:AllC e us [ρ x,ρ y]):
  yai Try.prog (fun v w'=>OutIs Id' W0 G w e r v w' mo) ((execOp ρ o).run Try.prog w):=by
 unfold ykb at h
 split at h
 ·rename_i i sz idx off p ht
  obtain rfl:=eqb_eq.1 ht
  obtain ⟨b,oo,nn,cap,hE,hi,hx⟩:=yau ha.1
  split at h
  ·rename_i x' ks R a hm hv
   split at h
   ·rename_i is ss hmk hb
    rw [Bool.and_eq_true] at hb
    obtain rfl:=eqb_eq.1 hb.1
    have hlt:=leb_le.1 hb.2
    simp only [Option.some.injEq,Prod.mk.injEq] at h
    obtain ⟨rfl,rfl,rfl⟩:=h
    have hy:ρ y=.int .i64 a:=yad hv (yau ha.2.1)
    have hgo:rwV ks ⟨is,ss⟩=(rwV ks (R.getD idx.toNat Rw.zero)).set off (.int .i64 a):=ym9 [] [] hmk
    obtain ⟨hnn,g,hg,h1,h2,_⟩:=flat_el (hM.holds i _ _ hE hm) rfl hi
    cases hg
    obtain ⟨z0,B,hB,hown⟩:=hM.holds i _ _ hE hm
    have hi2:=hi.2
    subst hnn
    have hln:(FL.rw x' ks R).R.length=R.length:=FL.len _
    have hi3:idx.toNat<R.length:=by rw [← hln];exact hi2
    have hrow:(FL.rw x' ks R).R.getD idx.toNat []=rwV ks (R.getD idx.toNat Rw.zero):=by
     simp only [FL.R]
     rw [zaf,zaf,List.getElem?_map,zaa hi3];rfl
    have hcell:=h1 off ((rwV ks (R.getD idx.toNat Rw.zero)).getD off undef) (by
     rw [hrow];exact get_someM (by rw [ydb];omega))
    have hfz:=hown.frozenAt (idx.toNat * ks.length+off)
    have hst:=ywp (t:=3) (by kernel_rfl) (v:=.int .i64 a) hcell hfz rfl
    have hx':ρ x=.pointer (some ⟨b,idx.toNat * ks.length+off,none⟩):=by rw [hx];simp
    have hmd:Mod (fun k=>Own Id' w (.slice (some ⟨b,0,none⟩) (FL.rw x' ks R).R.length cap) (.us (.ext (.flat (.rw x' ks R)))) k) w (w.setCell ⟨b,idx.toNat * ks.length+off,none⟩ (.int .i64 a)):=Mod.setCell (F:=fun k=>(Value.slice (some ⟨b,0,none⟩) (FL.rw x' ks R).R.length cap).ownBlock=some k) (p:=⟨b,idx.toNat * ks.length+off,none⟩) (Mod.refl _ w) (fun _=>rfl) _
    obtain ⟨hst1,_⟩:=hown.stored (idx.toNat * ks.length+off) (.int .i64 a)
    have hset:(FL.rw x' ks (R.set idx.toNat ⟨is,ss⟩)).R=(FL.rw x' ks R).R.set idx.toNat (((FL.rw x' ks R).R.getD idx.toNat []).set off (.int .i64 a)):=by
     rw [hrow,←hgo]
     simp only [FL.R,List.map_set]
    have hall:∀ r∈(FL.rw x' ks R).R,r.length=ks.length:=z0
    have hflat:=yp6 (v:=Value.int .i64 a) hall hi2 (show off<ks.length by omega)
    refine store_fin (run_store ho hx' (by rw [hy];exact hst)) (hM.upd hE hm hmd _ ?_ fun k hk=>?_)
    ·refine ⟨fun r hr=>?_,B,Nat.le_trans hB hmd.size,?_⟩
     ·rw [hset] at hr
      rcases List.mem_or_eq_of_mem_set hr with h|h
      ·exact z0 r h
      ·rw [h,zbb,hrow,ydb];rfl
     ·rw [hset,←hflat,zbb]
      exact hst1
    ·have hk':some b=some k:=hk
     cases hk'
     exact ⟨.inl rfl,Nat.lt_of_lt_of_le (yar hown rfl).2 hmd.size⟩
   ·cases h
  ·cases h
 ·cases h
end
end Go.Proofs.Ytiiekgcjilelpaa
