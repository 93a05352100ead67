/- W25 W26 W27 W28 W29 W30 W31 W32 W33 W34 W35 W36 W37 Z3. -/
import Derived.Test.YtdenmoiaiemokaaW24p
set_option linter.unusedVariables false
set_option linter.unusedSimpArgs false
namespace Go.Proofs.Ytdenmoiaiemokaa
open Go.RowKit
def padL (x:List UInt8) (k:Nat):List UInt8:=x++List.replicate k 0
end Go.Proofs.Ytdenmoiaiemokaa
set_option linter.unusedVariables false
set_option linter.unusedSimpArgs false
namespace Go.Proofs.Ytdenmoiaiemokaa
open Go.RowKit
def blkD (R:List Rw):List UInt8:=padL (packed (entsB R R.length)) (128 - (packed (entsB R R.length)).length)
end Go.Proofs.Ytdenmoiaiemokaa
set_option linter.unusedVariables false
set_option linter.unusedSimpArgs false
namespace Go.Proofs.Ytdenmoiaiemokaa
open Go.RowKit
def blksD (R:List Rw):Nat→List (List UInt8)
 |0=>[]
 |k+1=>blksD R k++[blkD ((R.drop (5 * k)).take 5)]
end Go.Proofs.Ytdenmoiaiemokaa
set_option linter.unusedVariables false
set_option linter.unusedSimpArgs false
namespace Go.Proofs.Ytdenmoiaiemokaa
open Go.RowKit
def rbB (R:List Rw):List (List UInt8):=bif allI 0 R.length (riseD R)&&!decide ((R.length:Int)>24) then blksD R (nbR R) else []
end Go.Proofs.Ytdenmoiaiemokaa
set_option linter.unusedVariables false
namespace Go.Proofs.Ytdenmoiaiemokaa
open Go.RowKit
theorem less_tri:∀ a b:List UInt8,(!Op.bytesLess a b)=(Op.bytesLess b a||b==a)
 |[],[]=>rfl
 |[],y::ys=>rfl
 |x::xs,[]=>rfl
 |x::xs,y::ys=>by
  have ih:=less_tri xs ys
  simp only [Op.bytesLess]
  by_cases h1:x<y
  ·simp [h1,UInt8.lt_asymm h1,UInt8.ne_of_lt h1,(UInt8.ne_of_lt h1).symm]
  ·by_cases h2:y<x
   ·simp [h1,h2,UInt8.ne_of_lt h2,(UInt8.ne_of_lt h2).symm]
   ·have:x=y:=UInt8.le_antisymm (UInt8.not_lt.1 h2) (UInt8.not_lt.1 h1)
    subst this
    simp [h1,ih]
theorem allI_iff {o n:Nat} {p:Int→Bool}:allI o n p=true↔∀ i:Int,(o:Int)≤i→i.toNat<n→p i=true:=by
 rcases allI_cases o n p with ⟨h,g⟩|⟨h,i,g1,g2,g3⟩
 ·exact ⟨fun _=>g,fun _=>h⟩
 ·refine ⟨fun e=>(by rw [h] at e;cases e),fun e=>?_⟩
  rw [e i g1 g2] at g3;cases g3
theorem riseD_is (R:List Rw) (i:Int):riseD R i=(isI R i&&(!decide (i>0)||riseI R i)):=by
 unfold riseD riseI
 rw [← less_tri]
 cases isI R i<;>cases decide (i>0)<;>simp
theorem okP_is (R:List Rw):okP R=allI 0 R.length (riseD R):=by
 rw [Bool.eq_iff_iff]
 unfold okP
 rw [Bool.and_eq_true,allI_iff,allI_iff,allI_iff]
 constructor
 ·rintro ⟨h1,h2⟩ i h0 hn
  rw [riseD_is,h2 i h0 hn,Bool.true_and]
  by_cases h:i>0
  ·rw [h1 i (by omega) hn];simp
  ·rw [decide_eq_false h];rfl
 ·intro h
  refine ⟨fun i h0 hn=>?_,fun i h0 hn=>?_⟩
  ·have:=h i (by omega) hn
   rw [riseD_is,Bool.and_eq_true,decide_eq_true (show i>0 by omega)] at this
   simpa using this.2
  ·have:=h i h0 hn
   rw [riseD_is,Bool.and_eq_true] at this
   exact this.1
end Go.Proofs.Ytdenmoiaiemokaa
set_option linter.unusedVariables false
namespace Go.Proofs.Ytdenmoiaiemokaa
open Go.RowKit
theorem put_fit {s:WS} {x n:Int} (he:s.err=0) (hf:fitsN x.toNat n):(s.put x n).bl=s.bl++bitsOf x.toNat n.toNat∧(s.put x n).err=0:=by
 simp only [WS.put,putL,putE]
 rw [if_pos ⟨he,hf⟩,if_neg (fun h=>h.2 hf)]
 exact ⟨rfl,he⟩
theorem chI_in (nm:ByteArray) (i:Int):0≤chI nm i∧chI nm i<256:=by
 unfold chI
 cases decide (i<(nm.size:Int)) with
 |true=>have:=(nm.data.toList.getD i.toNat 0).toNat_lt;simp only [cond_true];omega
 |false=>simp
theorem putN_fit {s:WS} (nm:ByteArray) (he:s.err=0):∀ k,(putN s nm k).bl=nmB s.bl nm k∧(putN s nm k).err=0
 |0=>⟨rfl,he⟩
 |k+1=>by
  obtain ⟨h1,h2⟩:=putN_fit nm he k
  have hc:=chI_in nm (k:Int)
  have h:=put_fit (x:=chI nm (k:Int)) (n:=8) h2 ⟨by decide,by decide,by show _<256;omega⟩
  refine ⟨?_,h.2⟩
  show ((putN s nm k).put (chI nm (k:Int)) 8).bl=nmB s.bl nm k++bitsOf (IntKind.u64.wrap (chI nm (k:Int))).toNat 8
  rw [h.1,h1,u64w_id (by omega)];rfl
theorem isE_in {nm:ByteArray} {a b c:Int} (h:isE nm a b c=true):nm.size<17∧(0<a∧a<41)∧(0≤b∧b<2147483648)∧(0<c∧c<3):=by
 unfold isE nameB at h
 simp only [Bool.and_eq_true,decide_eq_true_eq] at h
 omega
theorem putR_fit {s:WS} {r:Rw} (he:s.err=0) (h:isR r=true):(putR s r).bl=entB s.bl r∧(putR s r).err=0:=by
 obtain ⟨hn,ha,hb,hc⟩:=isE_in h
 have w1:=u64w_id (n:=((r.ss.getD 0 ⟨#[]⟩).size:Int)) (by omega)
 have w2:=u64w_id (n:=r.is.getD 0 0) (by omega)
 have w3:=u64w_id (n:=r.is.getD 1 0) (by omega)
 have w4:=u64w_id (n:=r.is.getD 2 0) (by omega)
 have p1:=put_fit (s:=s) (x:=IntKind.u64.wrap ((r.ss.getD 0 ⟨#[]⟩).size:Int)) (n:=5) he ⟨by decide,by decide,by rw [w1];show _<32;omega⟩
 have p2:=put_fit (x:=IntKind.u64.wrap (r.is.getD 0 0)) (n:=6) p1.2 ⟨by decide,by decide,by rw [w2];show _<64;omega⟩
 have p3:=put_fit (x:=IntKind.u64.wrap (r.is.getD 1 0)) (n:=31) p2.2 ⟨by decide,by decide,by rw [w3];show _<2147483648;omega⟩
 have p4:=put_fit (x:=IntKind.u64.wrap (r.is.getD 2 0)) (n:=2) p3.2 ⟨by decide,by decide,by rw [w4];show _<4;omega⟩
 have p5:=putN_fit (r.ss.getD 0 ⟨#[]⟩) p4.2 16
 refine ⟨?_,p5.2⟩
 show (putN _ _ 16).bl=_
 rw [p5.1,p4.1,p3.1,p2.1,p1.1];rfl
theorem putsW_fit {Y:List Rw} (h:∀ r∈Y,isR r=true):∀ k,k≤Y.length→(putsW .new Y k).bl=entsB Y k∧(putsW .new Y k).err=0
 |0,_=>⟨rfl,rfl⟩
 |k+1,hk=>by
  obtain ⟨h1,h2⟩:=putsW_fit h k (by omega)
  have hr:isR (Y.getD k Rw.zero)=true:=by
   rw [List.getD_eq_getElem?_getD,List.getElem?_eq_getElem (show k<Y.length by omega)]
   exact h _ (List.getElem_mem _)
  have p:=putR_fit (r:=Y.getD k Rw.zero) h2 hr
  refine ⟨?_,p.2⟩
  show (putR (putsW .new Y k) (Y.getD k Rw.zero)).bl=entB (entsB Y k) (Y.getD k Rw.zero)
  rw [p.1,h1]
theorem blk_is {Y:List Rw} (h:∀ r∈Y,isR r=true) (hl:Y.length≤5):blkP Y=blkD Y:=by
 obtain ⟨h1,h2⟩:=putsW_fit h Y.length (Nat.le_refl _)
 have ho:(putsW .new Y Y.length).out=packed (entsB Y Y.length):=by unfold WS.out;rw [if_pos h2,h1]
 have hn:=out_len Y hl
 unfold blkP blkD padL
 rw [w128 hl,ho]
 rw [ho] at hn
 congr 2
 omega
theorem blks_is {R:List Rw} (h:∀ r∈R,isR r=true):∀ k,blksP R k=blksD R k
 |0=>rfl
 |k+1=>by
  show blksP R k++_=blksD R k++_
  rw [blks_is h k,blk_is (fun r hr=>h r (List.mem_of_mem_drop (List.mem_of_mem_take hr))) (List.length_take_le ..)]
theorem dbB_is (R:List Rw):dbB R=rbB R:=by
 unfold dbB rbB
 rw [← okP_is]
 cases h:okP R with
 |false=>rfl
 |true=>
  rw [blks_is fun r hr=>?_]
  have h2:=(Bool.and_eq_true_iff.1 h).2
  obtain ⟨j,hj,rfl⟩:=List.getElem_of_mem hr
  have:=allI_iff.1 h2 (j:Int) (by omega) (by simpa using hj)
  unfold isI at this
  rw [Int.toNat_natCast,List.getD_eq_getElem?_getD,List.getElem?_eq_getElem hj] at this
  exact this
end Go.Proofs.Ytdenmoiaiemokaa
set_option linter.unusedVariables false
set_option linter.unusedSimpArgs false
namespace Go.Proofs.Ytdenmoiaiemokaa
open Go.RowKit
end Go.Proofs.Ytdenmoiaiemokaa
set_option linter.unusedVariables false
set_option linter.unusedSimpArgs false
namespace Go.Proofs.Ytdenmoiaiemokaa
open Go.RowKit
end Go.Proofs.Ytdenmoiaiemokaa
set_option linter.unusedVariables false
set_option linter.unusedSimpArgs false
namespace Go.Proofs.Ytdenmoiaiemokaa
open Go.RowKit
def gU (s:RS):UInt8:=UInt8.ofNat (IntKind.u8.wrap (s.num 8:Int)).toNat
def gL:Nat→RS→List UInt8
 |0,_=>[]
 |n+1,s=>gU s::gL n (s.get 8)
def gS:Nat→RS→RS
 |0,s=>s
 |n+1,s=>gS n (s.get 8)
def gN (s:RS):Int:=if (16:Int)<IntKind.i64.wrap (s.num 5:Int) then 16 else IntKind.i64.wrap (s.num 5:Int)
def g4 (s:RS):RS:=(((s.get 5).get 6).get 31).get 2
def gNm (s:RS):ByteArray:=⟨((gL 16 (g4 s)).take (gN s).toNat).toArray⟩
def gA (s:RS):Int:=IntKind.i64.wrap ((s.get 5).num 6:Int)
def gB (s:RS):Int:=IntKind.i64.wrap (((s.get 5).get 6).num 31:Int)
def gC (s:RS):Int:=IntKind.i64.wrap ((((s.get 5).get 6).get 31).num 2:Int)
def gE (s:RS):RS:=gS 16 (g4 s)
theorem RS.num_lt (s:RS) (n:Nat):s.num (n:Int)<2 ^ n:=by
 unfold RS.num getV
 split
 ·have h:=val_lt (bitsFrom s.l s.at' (n:Int).toNat)
  refine Nat.lt_of_lt_of_le h (Nat.pow_le_pow_right (by decide) ?_)
  unfold bitsFrom
  rw [Int.toNat_natCast]
  exact List.length_take_le ..
 ·exact Nat.pow_pos (by decide)
end Go.Proofs.Ytdenmoiaiemokaa
set_option linter.unusedVariables false
set_option linter.unusedSimpArgs false
namespace Go.Proofs.Ytdenmoiaiemokaa
open Go.RowKit
end Go.Proofs.Ytdenmoiaiemokaa
set_option linter.unusedVariables false
set_option linter.unusedSimpArgs false
namespace Go.Proofs.Ytdenmoiaiemokaa
open Go.RowKit
def entG (s:RS):Rw:=⟨[gA s,gB s,gC s],[gNm s]⟩
def stE (X:List Rw) (s:RS):Nat→List Rw×RS
 |0=>(X,s)
 |k+1=>(bif (gNm (stE X s k).2).toList==(⟨#[]⟩:ByteArray).toList then (stE X s k).1 else (stE X s k).1++[entG (stE X s k).2],gE (stE X s k).2)
def stO (L:List (List UInt8)):Nat→List Rw
 |0=>[]
 |k+1=>(stE (stO L k) (RS.new (L.getD k [])) 5).1
end Go.Proofs.Ytdenmoiaiemokaa
set_option linter.unusedVariables false
set_option linter.unusedSimpArgs false
namespace Go.Proofs.Ytdenmoiaiemokaa
open Go.RowKit
end Go.Proofs.Ytdenmoiaiemokaa
set_option linter.unusedVariables false
set_option linter.unusedSimpArgs false
namespace Go.Proofs.Ytdenmoiaiemokaa
open Go.RowKit
section
variable {W0:World} {G:Nat→Prop} {sz:Nat} {w:World} {e:Env} {mem:Mem Td}
def regO (id:Nat):Code→List Oper
 |.region i ops _=>match eqb i id with|true=>ops.toList|false=>[]
 |.seq x y=>regO id x++regO id y
 |.cond _ x y=>regO id x++regO id y
 |.block _ c=>regO id c
 |.loop c=>regO id c
 |_=>[]
def drwR (id:Nat):Code→Bool
 |.region i _ d=>match eqb i id with|true=>d|false=>false
 |.seq x y=>drwR id x||drwR id y
 |.cond _ x y=>drwR id x||drwR id y
 |.block _ c=>drwR id c
 |.loop c=>drwR id c
 |_=>false
def mapG (f:Mem Td→Mem Td) (S:Sy Td) (sz:Nat) (l:List Oper) (d:Bool):SSt Td→Option (Tr Td):=fun s=>forceN (s.ver+1) fun v=>some (regionB S sz l d ⟨s.base,f s.mem,v⟩)
theorem mapG_sound {Sq:Sy Td} (hS:SyOk Sq Id' W0 G) {S:Sy Td} (hP:S.P=Sq.P) {id:Nat} {l:List Oper} {d:Bool} {f:Mem Td→Mem Td} (hf:∀ w e mem,MemOk W0 G Id' w e mem→MemOk W0 G Id' w e (f mem)):FragSound S Id' W0 G sz (.region id l.toArray d) (mapG f Sq sz l d):=by
 intro s t hg
 unfold mapG at hg
 rw [forceN_eq] at hg
 simp only [Option.some.injEq] at hg
 subst hg
 refine ⟨Tr.all_mono (fun s' h=>?_) (regionB_after (S:=Sq) (sz:=sz) (l:=l) (d:=d) (s:=⟨s.base,f s.mem,s.ver+1⟩)),fun K hK Q a w e hfr hM hend=>?_⟩
 ·obtain ⟨⟨pre,h1,h2⟩,h3,_⟩:=h
  refine ⟨⟨pre,h1,fun p hp=>by simpa [writesC] using h2 p hp⟩,Nat.le_of_succ_le h3,fun hv=>absurd (hv▸h3) (Nat.not_succ_le_self _)⟩
 ·rw [hP]
  exact regionB_sound hS (s:=⟨s.base,f s.mem,s.ver+1⟩) hK hfr (hf w e s.mem hM) fun s' e' a' w' hg hk hf' hM'=>hend .normal s' e' a' w' hg hk hf' hM'
def modAt (g:En Td→En Td):Nat→Mem Td→Mem Td
 |_,[]=>[]
 |0,en::r=>g en::r
 |i+1,en::r=>en::modAt g i r
theorem modAt_len (g:En Td→En Td):∀ (i:Nat) (m:Mem Td),(modAt g i m).length=m.length
 |_,[]=>by simp [modAt]
 |0,en::r=>rfl
 |i+1,en::r=>by simp [modAt,modAt_len g i r]
theorem modAt_get (g:En Td→En Td):∀ (i:Nat) (m:Mem Td) (j:Nat) (n:En Td),(modAt g i m)[j]? =some n→∃ n0,m[j]? =some n0∧(n=n0∨n=g n0)
 |_,[],j,n,h=>by simp [modAt] at h
 |0,en::r,0,n,h=>by simp [modAt] at h;exact ⟨en,rfl,.inr h.symm⟩
 |0,en::r,j+1,n,h=>by simp [modAt] at h;exact ⟨n,by simpa using h,.inl rfl⟩
 |i+1,en::r,0,n,h=>by simp [modAt] at h;exact ⟨en,rfl,.inl h.symm⟩
 |i+1,en::r,j+1,n,h=>by
  simp only [modAt,List.getElem?_cons_succ] at h ⊢
  exact modAt_get g i r j n h
def toBx (en:En Td):En Td:=match en.ob with
 |.blk cs=>⟨.bx cs,en.mu⟩
 |_=>en
theorem bx_ok (i:Nat) (w:World) (e:Env) (mem:Mem Td) (hM:MemOk W0 G Id' w e mem):MemOk W0 G Id' w e (modAt toBx i mem):=hM.like (modAt_len _ _ _) fun j n' hn=>by
 obtain ⟨n,h1,h2⟩:=modAt_get _ _ _ _ _ hn
 refine ⟨n,h1,?_⟩
 rcases h2 with rfl|rfl
 ·exact ⟨rfl,fun u h=>h,fun u k h=>h,fun u k h=>h⟩
 ·unfold toBx
  split
  ·rename_i cs hb
   rw [hb]
   exact ⟨rfl,fun u h=>h,fun u k h=>h,fun u k h=>h⟩
  ·exact ⟨rfl,fun u h=>h,fun u k h=>h,fun u k h=>h⟩
end
end Go.Proofs.Ytdenmoiaiemokaa
set_option linter.unusedVariables false
set_option linter.unusedSimpArgs false
namespace Go.Proofs.Ytdenmoiaiemokaa
open Go.RowKit
def sdE (Q:List (Int×List UInt8)) (a:Int):Int:=bif decide (a<0)||decide (a>8) then 2 else bif decide ((Q.length:Int)≥256) then 8 else 0
def sdQ (Q:List (Int×List UInt8)) (a:Int) (b:List UInt8):List (Int×List UInt8):=bif decide (a<0)||decide (a>8) then Q else bif decide ((Q.length:Int)≥256) then Q else Q++[(a,b)]
set_option maxRecDepth 100000 in
theorem cpd_w0 (a:Int) (l:List UInt8) (h0:l.length≤1000000):∃ qs,wayO Id' ([⟨.us (.byt l),false⟩]:Mem Td).length [⟨.us (.byt l),false⟩,⟨.us (.own l),true⟩] (.c (.agg [.v (.int .i64 a),.obj 1])) ((runFn (⟨Try.prog,[(149,ctrF Id' (wkC C_clone) hardD)],[],dkHo,Id'.one,60⟩:Sy Td) [] Try.f93 [.agg [.v (.int .i64 a),.obj 0]] [⟨.us (.byt l),false⟩]).al [])=some qs∧∀ q∈qs,q:=
 ⟨[l.length≤(1000000:Nat),(Th.byt l:Td)=Th.byt l,(Th.own l:Td)=Th.own l,Value.int IntKind.i64 a=Value.int IntKind.i64 a],by kernel_rfl,(by refine mcons ?_ (mcons ?_ (mcons ?_ (mcons ?_ mnil)))<;>first|rfl|exact h0|trivial)⟩
def C_cpd:Ctr Td:=fun us sub=>match us,sub with
 |[.agg [.v (.int .i64 a),.obj 0]],[⟨.us (.byt l),false⟩]=>some ([l.length≤1000000],.c (.agg [.v (.int .i64 a),.obj 1]),[⟨.us (.byt l),false⟩,⟨.us (.own l),true⟩])
 |_,_=>none
set_option maxRecDepth 100000 in
theorem C_cpd_ok:CtrOk Try.prog Id' 93 C_cpd:=by
 intro us sub ps x sm h hp w e vs hM ha
 unfold C_cpd at h
 split at h
 ·rename_i a l
  simp only [Option.some.injEq,Prod.mk.injEq] at h
  obtain ⟨rfl,rfl,rfl⟩:=h
  have h0:=hp _ (List.mem_cons_self ..)
  exact ctr_way (I:=Id') (fun (W0:World) (G:Nat→Prop)=>SyOk.mk2 Try.mixed dkHo_ok (FnsR.cons (RW_clone) (FnsR.nil)) EqsOk.nil) rfl Try.func93 (by kernel_rfl) (fun W0 G=>LpsOk.nil _) (cs:=[]) (by kernel_rfl) (cpd_w0 a l h0) w e vs hM ha
 ·cases h
theorem R_cpd:RowOk Try.prog Id' hardD 93 (ctrF Id' C_cpd hardD):=ctrF_ok Try.call93 C_cpd_ok
def C_cpdB:Ctr Td:=fun us sub=>match us,sub with
 |[.agg [.v (.int .i64 a),.obj 0]],[⟨.us (.byt l),false⟩]=>some ([l.length≤1000000],.c (.agg [.v (.int .i64 a),.obj 1]),[⟨.us (.byt l),false⟩,⟨.us (.byt l),false⟩])
 |_,_=>none
theorem C_cpdB_ok:CtrOk Try.prog Id' 93 C_cpdB:=by
 intro us sub ps x sm h hp w e vs hM ha
 unfold C_cpdB at h
 split at h
 ·rename_i a l
  simp only [Option.some.injEq,Prod.mk.injEq] at h
  obtain ⟨rfl,rfl,rfl⟩:=h
  refine (C_cpd_ok _ _ _ _ _ rfl hp w e vs hM ha).mono fun y w' ⟨v,e',g1,g2,g3,g4⟩=>⟨v,e',g1,g2,g3,?_⟩
  obtain ⟨us',hu,_⟩:=g3
  match us',hu with
  |[u0,u1],⟨_,a1,_⟩=>
  have hE:e'[1]? =some u1:=a1
  obtain ⟨B,_,ho⟩:=g4.holds 1 _ _ hE rfl
  exact freeze g4 hE rfl (bs_own ho) fun k hk=>hk
 ·cases h
def C_rcopyB:Ctr Td:=fun us sub=>match us,sub with
 |[.one (.obj 0)],[⟨.us (.byt l),false⟩]=>some ([l.length≤1000000],.c (.one (.obj 1)),[⟨.us (.byt l),false⟩,⟨.us (.byt l),false⟩])
 |_,_=>none
theorem C_rcopyB_ok:CtrOk Try.prog Id' 14 C_rcopyB:=by
 intro us sub ps x sm h hp w e vs hM ha
 unfold C_rcopyB at h
 split at h
 ·rename_i l
  simp only [Option.some.injEq,Prod.mk.injEq] at h
  obtain ⟨rfl,rfl,rfl⟩:=h
  refine (C_rcopy_ok _ _ _ _ _ rfl hp w e vs hM ha).mono fun y w' ⟨v,e',g1,g2,g3,g4⟩=>⟨v,e',g1,g2,g3,?_⟩
  have hE:e'[1]? =some v:=g3
  obtain ⟨B,_,ho⟩:=g4.holds 1 _ _ hE rfl
  exact freeze g4 hE rfl (bs_own ho) fun k hk=>hk
 ·cases h
theorem R_rcopyB:RowOk Try.prog Id' hardD 14 (ctrF Id' C_rcopyB hardD):=ctrF_ok Try.call14 C_rcopyB_ok
def C_cpdBO:Ctr Td:=fun us sub=>match us,sub with
 |[.agg [.v (.int .i64 a),.obj 0]],[⟨.us (.own l),true⟩]=>some ([l.length≤1000000],.c (.agg [.v (.int .i64 a),.obj 1]),[⟨.us (.own l),true⟩,⟨.us (.byt l),false⟩])
 |_,_=>none
theorem C_cpdBO_ok:CtrOk Try.prog Id' 93 C_cpdBO:=by
 intro us sub ps x sm h hp w e vs hM ha
 unfold C_cpdBO at h
 split at h
 ·rename_i a l
  simp only [Option.some.injEq,Prod.mk.injEq] at h
  obtain ⟨rfl,rfl,rfl⟩:=h
  refine (wkC_ok C_cpd_ok _ _ _ _ _ rfl hp w e vs hM ha).mono fun y w' ⟨v,e',g1,g2,g3,g4⟩=>⟨v,e',g1,g2,g3,?_⟩
  obtain ⟨us',hu,_⟩:=g3
  match us',hu with
  |[u0,u1],⟨_,a1,_⟩=>
  have hE:e'[1]? =some u1:=a1
  obtain ⟨B,_,ho⟩:=g4.holds 1 _ _ hE rfl
  exact freeze g4 hE rfl (bs_own ho) fun k hk=>hk
 ·cases h
theorem R_cpdBO:RowOk Try.prog Id' hardD 93 (ctrF Id' C_cpdBO hardD):=ctrF_ok Try.call93 C_cpdBO_ok
def C_rcopyBO:Ctr Td:=fun us sub=>match us,sub with
 |[.one (.obj 0)],[⟨.us (.own l),true⟩]=>some ([l.length≤1000000],.c (.one (.obj 1)),[⟨.us (.own l),true⟩,⟨.us (.byt l),false⟩])
 |_,_=>none
theorem C_rcopyBO_ok:CtrOk Try.prog Id' 14 C_rcopyBO:=by
 intro us sub ps x sm h hp w e vs hM ha
 unfold C_rcopyBO at h
 split at h
 ·rename_i l
  simp only [Option.some.injEq,Prod.mk.injEq] at h
  obtain ⟨rfl,rfl,rfl⟩:=h
  refine (wkC_ok C_rcopy_ok _ _ _ _ _ rfl hp w e vs hM ha).mono fun y w' ⟨v,e',g1,g2,g3,g4⟩=>⟨v,e',g1,g2,g3,?_⟩
  have hE:e'[1]? =some v:=g3
  obtain ⟨B,_,ho⟩:=g4.holds 1 _ _ hE rfl
  exact freeze g4 hE rfl (bs_own ho) fun k hk=>hk
 ·cases h
theorem R_rcopyBO:RowOk Try.prog Id' hardD 14 (ctrF Id' C_rcopyBO hardD):=ctrF_ok Try.call14 C_rcopyBO_ok
def toBk (en:En Td):En Td:=match en.ob with
 |.bx cs=>⟨.blk cs,en.mu⟩
 |_=>en
theorem bk_ok {W0:World} {G:Nat→Prop} (i:Nat) (w:World) (e:Env) (mem:Mem Td) (hM:MemOk W0 G Id' w e mem):MemOk W0 G Id' w e (modAt toBk i mem):=hM.like (modAt_len _ _ _) fun j n' hn=>by
 obtain ⟨n,h1,h2⟩:=modAt_get _ _ _ _ _ hn
 refine ⟨n,h1,?_⟩
 rcases h2 with rfl|rfl
 ·exact ⟨rfl,fun u h=>h,fun u k h=>h,fun u k h=>h⟩
 ·unfold toBk
  split
  ·rename_i cs hb
   rw [hb]
   exact ⟨rfl,fun u h=>h,fun u k h=>h,fun u k h=>h⟩
  ·exact ⟨rfl,fun u h=>h,fun u k h=>h,fun u k h=>h⟩
end Go.Proofs.Ytdenmoiaiemokaa
