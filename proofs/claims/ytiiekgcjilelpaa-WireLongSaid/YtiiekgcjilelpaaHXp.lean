/- HX. -/
import Derived.Test.YtiiekgcjilelpaaHWp
set_option linter.unusedSimpArgs false
set_option linter.unusedVariables false
namespace Go.Proofs.Ytiiekgcjilelpaa
open Go.RowKit
section
variable {W0:World} {G:Nat→Prop} {w w':World} {e:Env} {mem:Mem Td}
def opWinA (t:TypeId) (us:List CV):OpD:=match us with
 |[.one (.ptr i off),.one q]=>(match eqb t 333,valP q with
  |true,some (.int _ h)=>some ([0≤h∧h≤16],.c (.one (.win i 0 0 off h.toNat 16)),none)
  |_,_=>none)
 |_=>none
theorem run_winA (b o:Nat) (k:IntKind) (h:Int) (hh:0≤h∧h≤16) (w:World):(Instr.sliceAt 333 (.pointer (some ⟨b,o,none⟩)) none (some (.int k h)) none).run Try.prog w=.ok (.slice (some ⟨b,o,none⟩) h.toNat 16) w:=by
 have hu:(underlying 333).run Try.prog w=.ok (.array 16 5) w:=run_underlying Try.underlying333 w
 have hs:(sizeOf 5).run Try.prog w=.ok 1 w:=pureSem_run _ (by kernel_rfl) w
 simp [Instr.sliceAt,hu,Instr.sliceBounds,run_sliceBound,hs,hh.1,hh.2,Instr.sureAddr,Addr.add]
theorem opWinA_ok {t:TypeId} {us:List CV} {ps:List Prop} {r:SV} {mo:Option (Mem Td)} (h:opWinA t us=some (ps,r,mo)) (hp:∀ p∈ps,p) {o:Oper} {ρ:Operand→Value} {x y:Operand} (ho:o.op=.slice t x none (some y) none) (ha:AllC e us [ρ x,ρ y]):
  givesUpon Try.prog (fun v w'=>OutIs Id' W0 G w e r v w' mo) ((execOp ρ o).run Try.prog w):=by
 unfold opWinA at h
 split at h
 ·rename_i i off q
  split at h
  ·rename_i k hh ht hv
   simp only [Option.some.injEq,Prod.mk.injEq] at h
   obtain ⟨rfl,rfl,rfl⟩:=h
   obtain rfl:=eqb_eq.1 ht
   obtain ⟨b,oo,hE,hx'⟩:=is_one ha.1
   have hy:=valP_is hv (is_one ha.2.1)
   have hrun:(execOp ρ o).run Try.prog w=.ok (.value (.slice (some ⟨b,oo+off,none⟩) hh.toNat 16)) w:=by
    unfold execOp
    simp only [ho,hx',Option.map_none,Option.map_some,hy]
    rw [Sem.run_bind,run_winA b _ _ _ (hp _ (List.mem_cons_self ..))]
    rfl
   rw [hrun]
   exact ⟨⟨_,b,oo,hE,.inl rfl,by simp⟩,Ext.refl w⟩
  ·cases h
 ·cases h
def opConvW (s d:TypeId) (us:List CV) (mem:Mem Td):OpD:=match us with
 |[.one (.win i sz idx off n cap)]=>(match mem[i]?,eqb s 37&&(eqb d 9&&(eqb sz 0&&eqb off 0)) with
  |some ⟨.blk cs,_⟩,true=>(match mapO valP cs with
   |some vs=>some ([n≤vs.length∧n≤cap∧cap≤maxLen,vs=(unb vs).map bv],svV (.string ⟨((unb vs).take n).toArray⟩),none)
   |none=>none)
  |_,_=>none)
 |_=>none
theorem mapO_at {α β:Type} {f:α→Option β}:∀ {l:List α} {m:List β},mapO f l=some m→m.length=l.length∧∀ (j:Nat) (y:β),m[j]? =some y→∃ x,l[j]? =some x∧f x=some y
 |[],m,h=>by cases h;exact ⟨rfl,fun j y h=>by simp at h⟩
 |x::xs,m,h=>by
  simp only [mapO] at h
  split at h
  ·cases h
  ·rename_i y hy
   split at h
   ·cases h
   ·rename_i ys hys
    cases h
    obtain ⟨h1,h2⟩:=mapO_at hys
    refine ⟨by simp [h1],fun j z hz=>?_⟩
    cases j with
    |zero=>simp at hz;subst hz;exact ⟨x,rfl,hy⟩
    |succ j=>exact h2 j z (by simpa using hz)
theorem opConvW_ok {s d:TypeId} {us:List CV} {ps:List Prop} {r:SV} {mo:Option (Mem Td)} (h:opConvW s d us mem=some (ps,r,mo)) (hp:∀ p∈ps,p) {o:Oper} {ρ:Operand→Value} {x:Operand} (ho:o.op=.convert s d x) (hM:MemOk W0 G Id' w e mem) (ha:AllC e us [ρ x]):
  givesUpon Try.prog (fun v w'=>OutIs Id' W0 G w e r v w' mo) ((execOp ρ o).run Try.prog w):=by
 unfold opConvW at h
 split at h
 ·rename_i i sz idx off n cap
  split at h
  ·rename_i cs mu hm hb
   split at h
   ·rename_i vs hv
    simp only [Option.some.injEq,Prod.mk.injEq] at h
    obtain ⟨rfl,rfl,rfl⟩:=h
    simp only [Bool.and_eq_true] at hb
    obtain ⟨b1,b2,b3,b4⟩:=hb
    obtain rfl:=eqb_eq.1 b1
    obtain rfl:=eqb_eq.1 b2
    obtain rfl:=eqb_eq.1 b3
    obtain rfl:=eqb_eq.1 b4
    obtain ⟨q1,q2,q3⟩:=hp _ (List.mem_cons_self ..)
    have q4:=hp _ (List.mem_cons_of_mem _ (List.mem_cons_self ..))
    obtain ⟨X,b,oo,hE,hat,hx⟩:=is_one ha.1
    obtain ⟨b2,o2,hX,hc⟩:=hM.holds i X _ hE hm
    have hbo:b=b2∧oo=o2:=by
     rw [hX] at hat
     rcases hat with h|⟨_,_,h⟩
     ·cases h;exact ⟨rfl,rfl⟩
     ·cases h
    obtain ⟨rfl,rfl⟩:=hbo
    obtain ⟨l1,l2⟩:=mapO_at hv
    have hlen:((unb vs).take n).length=n:=by
     rw [List.length_take]
     have:(unb vs).length=vs.length:=by unfold unb;rw [List.length_map]
     omega
    have hB:Bs w (ρ x) ((unb vs).take n):=by
     rw [hx]
     refine ⟨by simp,some ⟨b,oo+(idx.toNat * 0+0),none⟩,cap,by rw [hlen],by omega,q3,(fun h=>by cases h),fun a ha' j v hj=>?_⟩
     cases ha'
     rw [List.map_take,←q4,List.getElem?_take] at hj
     split at hj
     ·obtain ⟨p,h1,h2⟩:=l2 j v hj
      obtain ⟨y,h3,h4,_⟩:=hc j p h1
      have:=valP_is h2 h4
      subst this
      rw [Addr.add_mid]
      simpa using h3
     ·cases hj
    have hr:=convert_bytes hB
    have hrun:(execOp ρ o).run Try.prog w=.ok (.value (.string ⟨((unb vs).take n).toArray⟩)) w:=by
     unfold execOp
     simp only [ho]
     rw [Sem.run_bind,hr]
     rfl
    rw [hrun]
    exact ⟨rfl,Ext.refl w⟩
   ·cases h
  ·cases h
 ·cases h
theorem opConvW_mono {s d:TypeId} {us:List CV} {m m':Mem Td} {ps:List Prop} {r:SV} (h:opConvW s d us m=some (ps,r,none)) (hl:MLe m m'):opConvW s d us m'=some (ps,r,none):=by
 unfold opConvW at h ⊢
 split at h
 ·split at h
  ·rename_i hm hb
   simp only [hl _ _ hm (by simp),hb]
   exact h
  ·cases h
 ·cases h
def opRR (t:TypeId) (us:List CV) (mem:Mem Td):OpD:=match us with
 |.one (.obj i)::rest=>(match mem[i]?,eqb t 37 with
  |some ⟨.us (.rr s),false⟩,true=>(match lohi true false (8 * s.l.length - s.at') rest with
   |some (l,h)=>some ([0≤l∧l≤h∧h=((8 * s.l.length - s.at':Nat):Int)],.c (.one (.obj mem.length)),some (mem++[⟨.us (.rr ⟨s.l,s.at'+l.toNat,s.err⟩),false⟩]))
   |none=>none)
  |_,_=>none)
 |_=>none
theorem opRR_ok {t:TypeId} {lo:Operand} {us:List CV} {ps:List Prop} {r:SV} {mo:Option (Mem Td)} (h:opRR t us mem=some (ps,r,mo)) (hp:∀ p∈ps,p) {o:Oper} {ρ:Operand→Value} {x:Operand} (ho:o.op=.slice t x (some lo) none none) (hM:MemOk W0 G Id' w e mem) (ha:AllC e us [ρ x,ρ lo]):
  givesUpon Try.prog (fun v w'=>OutIs Id' W0 G w e r v w' mo) ((execOp ρ o).run Try.prog w):=by
 unfold opRR at h
 split at h
 ·rename_i i rest
  obtain ⟨a0,a1⟩:=ha
  have hE:e[i]? =some (ρ x):=a0
  split at h
  ·rename_i s hm ht
   obtain rfl:=eqb_eq.1 ht
   split at h
   ·rename_i l hh hlh
    simp only [Option.some.injEq,Prod.mk.injEq] at h
    obtain ⟨rfl,rfl,rfl⟩:=h
    obtain ⟨q1,q2,q3⟩:0≤l∧l≤hh∧hh=((8 * s.l.length - s.at':Nat):Int):=hp _ (List.mem_cons_self ..)
    obtain ⟨hb,hlt,hl,hat⟩:=hM.holds i _ _ hE hm
    have hlen:(bbs ((bitsAll s.l).drop s.at')).length=8 * s.l.length - s.at':=by rw [bbs_length,List.length_drop,bitsAll_length]
    have hb':=hb
    obtain ⟨_,ao,cap,hv,hcap,_⟩:=hb'
    rw [hlen] at hv hcap
    have hr:=lohi_is hlh a1 ⟨q1,q2,by omega⟩ (ao:=ao) hcap elemU8 sizeU8 w (some (ρ lo)) none rfl rfl rfl
    have hrun:(execOp ρ o).run Try.prog w=.ok (.value (.slice (if cap=l.toNat then ao else ao.map (·.add (l.toNat * 1))) (hh.toNat - l.toNat) (cap - l.toNat))) w:=by
     unfold execOp
     simp only [ho,Option.map_none,Option.map_some,hv]
     rw [Sem.run_bind,hr]
     rfl
    rw [hrun]
    have hbv:Bs w (.slice ao (8 * s.l.length - s.at') cap) (bbs ((bitsAll s.l).drop s.at')):=by rw [← hv];exact hb
    have hcut:=bs_part hbv (lo:=l.toNat) (hi:=hh.toNat) (by omega) (by omega)
    have hd:((bbs ((bitsAll s.l).drop s.at')).drop l.toNat).take (hh.toNat - l.toNat)=bbs ((bitsAll s.l).drop (s.at'+l.toNat)):=by
     rw [List.take_of_length_le (by rw [List.length_drop,hlen];omega)]
     unfold bbs
     rw [← List.map_drop,List.drop_drop]
    rw [hd] at hcut
    have hob:∀ kk,(Value.slice (if cap=l.toNat then ao else ao.map (·.add (l.toNat * 1))) (hh.toNat - l.toNat) (cap - l.toNat)).ownBlock=some kk→(ρ x).ownBlock=some kk:=fun kk hk=>by
     rw [hv]
     cases ao with
     |none=>
      rw [show (if cap=l.toNat then (none:Option Addr) else (none:Option Addr).map (·.add (l.toNat * 1)))=none by split<;>rfl] at hk
      exact hk
     |some y=>
      by_cases hc:cap=l.toNat
      ·rw [if_pos hc] at hk;exact hk
      ·rw [if_neg hc] at hk
       simp only [Option.map_some,ownBlock_slice,add_block] at hk ⊢
       exact hk
    have hle:s.at'+l.toNat≤8 * s.l.length:=by omega
    refine ⟨e++[_],Grows.push _ _,?_,hM.share _ (.us (.rr ⟨s.l,s.at'+l.toNat,s.err⟩)) ⟨hcut,fun kk hk=>hlt kk (hob kk hk),hl,hle⟩ fun kk hk=>?_⟩
    ·show (e++[_])[mem.length]? =_
     rw [← hM.len,List.getElem?_append_right (Nat.le_refl _)];simp
    ·exact ⟨i,_,_,hE,hm,hob kk hk,fun h=>by cases h⟩
   ·cases h
  ·cases h
 ·cases h
def opSS (t:TypeId) (us:List CV) (mem:Mem Td):OpD:=match us with
 |.one (.obj i)::rest=>(match mem[i]?,eqb t 153 with
  |some ⟨.us (.ext (.shr sz n el)),false⟩,true=>(match eqb sz 1,lohi false true n rest with
   |true,some (l,h)=>some ([l=0∧0≤h∧h≤(n:Int)],.c (.one (.obj mem.length)),some (mem++[⟨.us (.ext (.shr 1 h.toNat el)),false⟩]))
   |_,_=>none)
  |_,_=>none)
 |_=>none
theorem elemBs:Try.prog.underlying 153=some (.slice (Try.prog.elem 153)):=by
 rw [show Try.prog.elem 153=37 from by kernel_rfl];exact Try.underlying153
theorem sizeBs (w:World):(sizeOf (Try.prog.elem 153)).run Try.prog w=.ok 1 w:=
 pureSem_run _ (show pureSem Try.prog (sizeOf (Try.prog.elem 153))=some 1 by kernel_rfl) w
theorem opSS_ok {t:TypeId} {hi:Operand} {us:List CV} {ps:List Prop} {r:SV} {mo:Option (Mem Td)} (h:opSS t us mem=some (ps,r,mo)) (hp:∀ p∈ps,p) {o:Oper} {ρ:Operand→Value} {x:Operand} (ho:o.op=.slice t x none (some hi) none) (hM:MemOk W0 G Id' w e mem) (ha:AllC e us [ρ x,ρ hi]):
  givesUpon Try.prog (fun v w'=>OutIs Id' W0 G w e r v w' mo) ((execOp ρ o).run Try.prog w):=by
 unfold opSS at h
 split at h
 ·rename_i i rest
  obtain ⟨a0,a1⟩:=ha
  have hE:e[i]? =some (ρ x):=a0
  split at h
  ·rename_i sz n el hm ht
   obtain rfl:=eqb_eq.1 ht
   split at h
   ·rename_i l hh hsz hlh
    obtain rfl:=eqb_eq.1 hsz
    simp only [Option.some.injEq,Prod.mk.injEq] at h
    obtain ⟨rfl,rfl,rfl⟩:=h
    obtain ⟨rfl,q2,q3⟩:l=0∧0≤hh∧hh≤(n:Int):=hp _ (List.mem_cons_self ..)
    obtain ⟨_,vals,hR,hc⟩:=hM.holds i _ _ hE hm
    have hR':=hR
    obtain ⟨hlen,ao,cap,hv,hcap,hcm,hn,_⟩:=hR'
    have hr:=lohi_is hlh a1 ⟨by decide,q2,q3⟩ (ao:=ao) hcap elemBs sizeBs w none (some (ρ hi)) rfl rfl rfl
    have hrun:(execOp ρ o).run Try.prog w=.ok (.value (.slice (if cap=(0:Int).toNat then ao else ao.map (·.add ((0:Int).toNat * 1))) (hh.toNat - (0:Int).toNat) (cap - (0:Int).toNat))) w:=by
     unfold execOp
     simp only [ho,Option.map_none,Option.map_some,hv]
     rw [Sem.run_bind,hr]
     rfl
    have hao:(if cap=(0:Int).toNat then ao else ao.map (·.add ((0:Int).toNat * 1)))=ao:=by
     cases ao with
     |none=>split<;>rfl
     |some y=>
      split
      ·rfl
      ·show some (y.add (0 * 1))=some y
       rw [show y.add (0 * 1)=y from by simp [Addr.add]]
    rw [hao,show (0:Int).toNat=0 from rfl,Nat.sub_zero,Nat.sub_zero] at hrun
    rw [hrun]
    have hcut:=Rs.cut (sz:=1) (k:=0) (m:=hh.toNat) (ao':=ao) (cap':=cap) (by rw [hv] at hR;exact hR) (Nat.zero_le _) (by omega) (by omega) hcm hn (fun a ha _=>⟨a,ha,by simp [Addr.add]⟩)
    rw [Nat.sub_zero] at hcut
    have hk:hh.toNat≤n:=by omega
    refine ⟨e++[_],Grows.push _ _,?_,hM.share _ (.us (.ext (.shr 1 hh.toNat el))) ⟨by decide,_,hcut,fun i' j c v hi' hj hcc hvv=>?_⟩ fun kk hk'=>?_⟩
    ·show (e++[_])[mem.length]? =_
     rw [← hM.len,List.getElem?_append_right (Nat.le_refl _)];simp
    ·refine hc i' j c v (by omega) hj hcc ?_
     rw [List.getElem?_take,List.getElem?_drop] at hvv
     split at hvv
     ·rw [show 0 * 1+(i' * 1+j)=i' * 1+j by omega] at hvv
      exact hvv
     ·cases hvv
    ·rcases hk' with ⟨h1,h2⟩|⟨i',j,c,v,g1,g2,g3,g4,⟨a,n',cap',hu,hcl⟩,g6⟩
     ·refine ⟨i,_,_,hE,hm,.inl ⟨by omega,?_⟩,fun h=>by cases h⟩
      rw [hv]
      rw [ownBlock_slice] at h2 ⊢
      exact h2
     ·cases hu
      exact ⟨i,_,_,hE,hm,.inr ⟨i',j,c,v,by omega,g2,g3,g4,⟨a,n,cap,hv,hcl⟩,g6⟩,fun h=>by cases h⟩
   ·cases h
  ·cases h
 ·cases h
def isWinP:List CV→Bool
 |[.one (.win _ _ _ _ _ _)]=>true
 |_=>false
end
end Go.Proofs.Ytiiekgcjilelpaa
