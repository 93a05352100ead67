/- JM17. -/
import Derived.Test.YtiiekgcjilelpaaJM9p
import Derived.Test.YtiiekgcjilelpaaG0p
import Derived.Deep.CutBlock
import Derived.Deep.DeepCutAuto
open List renaming getElem?_eq_getElem → zaa, getD_eq_getElem?_getD → zaf
open Nat renaming le_refl → zbm
open Array renaming getElem?_eq_some_iff → zbp
set_option linter.unusedSimpArgs false
set_option linter.unusedVariables false
namespace Go.Proofs.Ytiiekgcjilelpaa
open Go.RowKit
namespace Mm
def shortS (s:ByteArray) (n:Nat):ByteArray:=if n<s.size then s.extract 0 n else s
set_option maxRecDepth 100000 in
set_option maxHeartbeats 1000000 in
theorem yja (s:ByteArray) (n:Nat) (hn:n≤9223372036854775807) (w:World):
  Calls Try.prog 77 #[.string s,.int .i64 n] w fun e w'=>e=.returned (.string (shortS s n))∧w=w':=by
 by_cases h:n<s.size
 ·have hi:((n:Int)<(s.size:Int))=True:=eq_true (by omega)
  rw [shortS,if_pos h]
  go_enter Try.func77,Try.ntmps77
  go_wp2
  go_ret
  exact ⟨rfl,rfl⟩
 ·have hi:((n:Int)<(s.size:Int))=False:=eq_false (by omega)
  rw [shortS,if_neg h]
  have H:=Lib.hid h;clear h
  go_enter Try.func77,Try.ntmps77
  go_wp2
  go_ret
  exact ⟨rfl,rfl⟩
def Ent.cells (d:Ent):List Value:=[.string d.nm,.int .i64 d.ino,.int .i64 d.gen,.int .i64 d.kind]
def cutE (d:Ent):Ent:=⟨shortS d.nm 20,d.ino,d.gen,d.kind⟩
def shortL (l:List Ent):List Ent:=(l.take 26).map cutE
theorem yp7 (j:Nat) (hj:j<4):∀ (ds:List Ent) (k:Nat) (d:Ent),ds[k]? =some d→(ds.flatMap Ent.cells)[k * 4+j]? =d.cells[j]?
 |[],k,d,h=>by simp at h
 |x::xs,k,d,h=>by
  have hx:x.cells.length=4:=rfl
  rw [List.flatMap_cons]
  cases k with
  |zero=>simp at h;subst h;rw [List.getElem?_append_left (by omega),Nat.zero_mul,Nat.zero_add]
  |succ k=>rw [List.getElem?_append_right (by omega),hx,show (k+1) * 4+j - 4=k * 4+j by omega];exact yp7 j hj xs k d (by simpa using h)
theorem ywl {w:World} {B:Nat} {t:TypeId} {oo:Option Addr} {k oc:Nat} {l:List Ent} (h:w.ownsRow B t 4 (.slice oo k oc) k (l.flatMap Ent.cells)) (hk:l.length=k):Es w (.slice oo k oc) l:=by
 have hsp:∀ a,oo=some a→a.spot=none:=fun a ha=>by
  rcases h.2 with ⟨e,_⟩|⟨g,cap,cur,e,_⟩
  ·cases e;cases ha
  ·cases e;cases ha;rfl
 obtain ⟨ao,cap,e,r1,r2,r3,r4,r5⟩:=(Rs.of_owns h).open
 cases e
 refine ⟨oo,oc,?_,by rw [show (entKS l).n=k from hk];exact r1,r2,r3,fun a ha=>⟨fun _=>hsp a ha,fun i hi j p hp=>?_⟩⟩
 ·rw [show (entKS l).n=k from hk]
 ·have hi':i<l.length:=hi
  have hd:l[i]? =some (entAt l i):=by rw [entAt,zaf,zaa hi'];rfl
  have hs:=hsp a ha
  have cell:∀ j u,j<4→(entAt l i).cells[j]? =some u→w.cell? ⟨a.block,a.off+(i * 4+j),none⟩=some u:=fun j u hj hu=>by
   have:=r5 a ha (i * 4+j) u ((yp7 j hj l i _ hd).trans hu)
   obtain ⟨b,o,sp⟩:=a
   cases hs
   by_cases h0:i * 4+j=0
   ·rw [h0] at this ⊢;simpa [Addr.add] using this
   ·rw [Addr.add,if_neg h0] at this;exact this
  simp only [entKS] at hp
  match j,hp with
  |0,hp=>simp at hp;subst hp;exact ⟨_,cell 0 _ (by decide) rfl,rfl⟩
  |1,hp=>simp at hp;subst hp;exact ⟨_,cell 1 _ (by decide) rfl,rfl⟩
  |2,hp=>simp at hp;subst hp;exact ⟨_,cell 2 _ (by decide) rfl,rfl⟩
  |3,hp=>simp at hp;subst hp;exact ⟨_,cell 3 _ (by decide) rfl,rfl⟩
  |j+4,hp=>simp at hp
theorem yrl {en:List Ent} {k:Nat} (hk:k<26) (hl:k<en.length):shortL (en.take (k+1))=shortL (en.take k)++[cutE (entAt en k)]:=by
 unfold shortL
 rw [List.take_take,List.take_take,Nat.min_eq_right (by omega),Nat.min_eq_right (by omega),List.take_succ_eq_append_getElem hl,List.map_append,entAt,zaf,zaa hl]
 rfl
theorem etEnt:ElemT Try.prog 60 129 4 40:=ElemT.mk' Try.underlying60 (z:=.agg #[.string ⟨#[]⟩,.int .i64 0,.int .i64 0,.int .i64 0]) (by kernel_rfl) rfl (by decide)
set_option maxRecDepth 100000 in
set_option maxHeartbeats 4000000 in
theorem shortM_c (ty cl ss sq bo kd er f1 f2 d1 d2:Int) (nm ot:ByteArray) (mo pl:Int) (da:ByteArray) (ve:Int) (en:List Ent) (v:Value) (w:World) (hv:Es w v en):
  Calls Try.prog 33 #[.agg #[.int .i64 ty,.int .i64 cl,.int .u64 ss,.int .u64 sq,.int .u64 bo,.int .i64 kd,.int .i64 er,.int .i64 f1,.int .i64 f2,.int .i64 d1,.int .i64 d2,.string nm,.string ot,.int .i64 mo,.int .i64 pl,.string da,.int .u64 ve,v]] w fun e w'=>∃ v',e=.returned (.agg #[.int .i64 ty,.int .i64 cl,.int .u64 ss,.int .u64 sq,.int .u64 bo,.int .i64 kd,.int .i64 er,.int .i64 f1,.int .i64 f2,.int .i64 d1,.int .i64 d2,.string (shortS nm 20),.string (shortS ot 20),.int .i64 mo,.int .i64 pl,.string (shortS da 70),.int .u64 ve,v'])∧Ext w w'∧Es w' v' (shortL en)∧∀ k,v'.ownBlock=some k→w.heap.size≤k∧k<w'.heap.size:=by
 have hv0:=hv
 obtain ⟨ao,cap,rfl,h1,h2,h3,h4⟩:=hv
 obtain ⟨n,hn⟩:∃ n,n=en.length:=⟨_,rfl⟩
 have hn':(entKS en).n=n:=hn.symm
 rw [hn'] at h1 ⊢
 have HN:=Lib.hid hn
 have HV:=Lib.hid hv0
 have H4:=Lib.hid h4
 have H3:=Lib.hid h3
 clear hn hn' hv0 h4 h3
 go_enter Try.func33,Try.ntmps33
 go_upto_region 1 with fail
 obtain ⟨wA,hwA⟩:∃ wA,wA=(w.alloc (.cells #[.int .i64 ty,.int .i64 cl,.int .u64 ss,.int .u64 sq,.int .u64 bo,.int .i64 kd,.int .i64 er,.int .i64 f1,.int .i64 f2,.int .i64 d1,.int .i64 d2,.string nm,.string ot,.int .i64 mo,.int .i64 pl,.string da,.int .u64 ve,.slice ao n cap] 62)).alloc (.cells #[.int .i64 0,.int .i64 0,.int .u64 0,.int .u64 0,.int .u64 0,.int .i64 0,.int .i64 0,.int .i64 0,.int .i64 0,.int .i64 0,.int .i64 0,.string ⟨#[]⟩,.string ⟨#[]⟩,.int .i64 0,.int .i64 0,.string ⟨#[]⟩,.int .u64 0,.slice none 0 0] 62):=⟨_,rfl⟩
 have hb0:wA.heap[w.heap.size]? =some (.cells #[.int .i64 ty,.int .i64 cl,.int .u64 ss,.int .u64 sq,.int .u64 bo,.int .i64 kd,.int .i64 er,.int .i64 f1,.int .i64 f2,.int .i64 d1,.int .i64 d2,.string nm,.string ot,.int .i64 mo,.int .i64 pl,.string da,.int .u64 ve,.slice ao n cap] 62 (0,0)):=by rw [hwA];exact blk_old (heap_alloc_new w _)
 have hb1:wA.heap[w.heap.size+1]? =some (.cells #[.int .i64 0,.int .i64 0,.int .u64 0,.int .u64 0,.int .u64 0,.int .i64 0,.int .i64 0,.int .i64 0,.int .i64 0,.int .i64 0,.int .i64 0,.string ⟨#[]⟩,.string ⟨#[]⟩,.int .i64 0,.int .i64 0,.string ⟨#[]⟩,.int .u64 0,.slice none 0 0] 62 (0,0)):=by rw [hwA];have:=heap_alloc_new (w.alloc (.cells #[.int .i64 ty,.int .i64 cl,.int .u64 ss,.int .u64 sq,.int .u64 bo,.int .i64 kd,.int .i64 er,.int .i64 f1,.int .i64 f2,.int .i64 d1,.int .i64 d2,.string nm,.string ot,.int .i64 mo,.int .i64 pl,.string da,.int .u64 ve,.slice ao n cap] 62)) (.cells #[.int .i64 0,.int .i64 0,.int .u64 0,.int .u64 0,.int .u64 0,.int .i64 0,.int .i64 0,.int .i64 0,.int .i64 0,.int .i64 0,.int .i64 0,.string ⟨#[]⟩,.string ⟨#[]⟩,.int .i64 0,.int .i64 0,.string ⟨#[]⟩,.int .u64 0,.slice none 0 0] 62);rwa [World.size_alloc] at this
 have hxA:Ext w wA:=by rw [hwA];exact ((Ext.refl w).alloc _).alloc _
 have hsA:wA.heap.size=w.heap.size+2:=by rw [hwA];simp
 rw [← hwA]
 have c11:wA.cell? ⟨w.heap.size,11,none⟩=some (.string nm):=by rw [yac hb0];rfl
 have c12:wA.cell? ⟨w.heap.size,12,none⟩=some (.string ot):=by rw [yac hb0];rfl
 have c15:wA.cell? ⟨w.heap.size,15,none⟩=some (.string da):=by rw [yac hb0];rfl
 have HB0:=Lib.hid hb0
 have HB1:=Lib.hid hb1
 have HXA:=Lib.hid hxA
 have HSA:=Lib.hid hsA
 clear hb0 hb1 hxA hsA hwA
 refine ycl 10 45
  [ex (.pointer (some ⟨w.heap.size,11,none⟩)),
   ex (.string nm),
   ex (.string (shortS nm 20)),
   ex (.pointer (some ⟨w.heap.size,12,none⟩)),
   ex (.string ot),
   ex (.string (shortS ot 20)),
   ex (.pointer (some ⟨w.heap.size,15,none⟩)),
   ex (.string da),
   ex (.string (shortS da 70)),
   ex (.pointer (some ⟨w.heap.size,11,none⟩))]
  (by kernel_rfl) (by kernel_rfl) (by kernel_rfl) rfl ⟨yaq,yaq,yaq,yaq,yaq,yaq,yaq,yaq,yaq,yaq,trivial⟩ ?_ ?_
 ·simp only [List.take_succ_cons,List.take_zero]
  go_tidy
  refine RhOps.mk (RhOp.at (by decide) (.free rfl) ?_) ?_
  rotate_left
  refine RhOps.mk (RhOp.at (by decide) (.free rfl) ?_) ?_
  rotate_left
  refine RhOps.mk (RhOp.at (by decide) (.free rfl) ?_) ?_
  rotate_left
  refine RhOps.mk (RhOp.at (by decide) (.free rfl) ?_) ?_
  rotate_left
  refine RhOps.mk (RhOp.at (by decide) (.free rfl) ?_) ?_
  rotate_left
  refine RhOps.mk (RhOp.at (by decide) (.free rfl) ?_) ?_
  rotate_left
  refine RhOps.mk (RhOp.at (by decide) (.free rfl) ?_) ?_
  rotate_left
  refine RhOps.mk (RhOp.at (by decide) (.free rfl) ?_) ?_
  rotate_left
  refine RhOps.mk (RhOp.at (by decide) (.free rfl) ?_) ?_
  rotate_left
  refine RhOps.mk (RhOp.at (by decide) (.free rfl) ?_) ?_
  rotate_left
  exact RhOps.done
  ·intro bb vals ρ w' hC hd hS
   have r1:ρ (.tmp 1)=.pointer (some ⟨w.heap.size,0,none⟩):=hS.tmp 1
   refine (show yap _ _ _ _ (fun v w''=>Ext w' w''∧v=.pointer (some ⟨w.heap.size,11,none⟩)) from ?_)
   clear hC hd hS
   go_simp
   exact Ext.refl _
  ·intro bb vals ρ w' hC hd hS
   have r6:ρ (.tmp 6)=.pointer (some ⟨w.heap.size,11,none⟩):=(hS.tmp 6).trans (hd.at 0 rfl)
   have qc:=hC.cell c11
   refine (show yap _ _ _ _ (fun v w''=>Ext w' w''∧v=.string nm) from ?_)
   clear hC hd hS
   go_simp
   exact Ext.refl _
  ·intro bb vals ρ w' hC hd hS
   have r7:ρ (.tmp 7)=.string nm:=(hS.tmp 7).trans (hd.at 1 rfl)
   have rc:=hS.const
   have rf:=hS.func
   refine (show yap _ _ _ _ (fun v w''=>Ext w' w''∧v=.string (shortS nm 20)) from ?_)
   clear hC hd
   refine yig rfl (hS.func _) (by go_simp) ?_
   rw [show Array.map ρ #[Operand.tmp 7,Operand.const (.int .i64 20)]=#[.string nm,.int .i64 20] by simp [r7,rc]]
   refine (yja nm 20 (by decide) w').mono ?_
   rintro r w'' ⟨rfl,rfl⟩
   exact ⟨_,rfl,Ext.refl _,rfl⟩
  ·intro bb vals ρ w' hC hd hS
   have r1:ρ (.tmp 1)=.pointer (some ⟨w.heap.size,0,none⟩):=hS.tmp 1
   refine (show yap _ _ _ _ (fun v w''=>Ext w' w''∧v=.pointer (some ⟨w.heap.size,12,none⟩)) from ?_)
   clear hC hd hS
   go_simp
   exact Ext.refl _
  ·intro bb vals ρ w' hC hd hS
   have r9:ρ (.tmp 9)=.pointer (some ⟨w.heap.size,12,none⟩):=(hS.tmp 9).trans (hd.at 3 rfl)
   have qc:=hC.cell c12
   refine (show yap _ _ _ _ (fun v w''=>Ext w' w''∧v=.string ot) from ?_)
   clear hC hd hS
   go_simp
   exact Ext.refl _
  ·intro bb vals ρ w' hC hd hS
   have r10:ρ (.tmp 10)=.string ot:=(hS.tmp 10).trans (hd.at 4 rfl)
   have rc:=hS.const
   have rf:=hS.func
   refine (show yap _ _ _ _ (fun v w''=>Ext w' w''∧v=.string (shortS ot 20)) from ?_)
   clear hC hd
   refine yig rfl (hS.func _) (by go_simp) ?_
   rw [show Array.map ρ #[Operand.tmp 10,Operand.const (.int .i64 20)]=#[.string ot,.int .i64 20] by simp [r10,rc]]
   refine (yja ot 20 (by decide) w').mono ?_
   rintro r w'' ⟨rfl,rfl⟩
   exact ⟨_,rfl,Ext.refl _,rfl⟩
  ·intro bb vals ρ w' hC hd hS
   have r1:ρ (.tmp 1)=.pointer (some ⟨w.heap.size,0,none⟩):=hS.tmp 1
   refine (show yap _ _ _ _ (fun v w''=>Ext w' w''∧v=.pointer (some ⟨w.heap.size,15,none⟩)) from ?_)
   clear hC hd hS
   go_simp
   exact Ext.refl _
  ·intro bb vals ρ w' hC hd hS
   have r12:ρ (.tmp 12)=.pointer (some ⟨w.heap.size,15,none⟩):=(hS.tmp 12).trans (hd.at 6 rfl)
   have qc:=hC.cell c15
   refine (show yap _ _ _ _ (fun v w''=>Ext w' w''∧v=.string da) from ?_)
   clear hC hd hS
   go_simp
   exact Ext.refl _
  ·intro bb vals ρ w' hC hd hS
   have r13:ρ (.tmp 13)=.string da:=(hS.tmp 13).trans (hd.at 7 rfl)
   have rc:=hS.const
   have rf:=hS.func
   refine (show yap _ _ _ _ (fun v w''=>Ext w' w''∧v=.string (shortS da 70)) from ?_)
   clear hC hd
   refine yig rfl (hS.func _) (by go_simp) ?_
   rw [show Array.map ρ #[Operand.tmp 13,Operand.const (.int .i64 70)]=#[.string da,.int .i64 70] by simp [r13,rc]]
   refine (yja da 70 (by decide) w').mono ?_
   rintro r w'' ⟨rfl,rfl⟩
   exact ⟨_,rfl,Ext.refl _,rfl⟩
  ·intro bb vals ρ w' hC hd hS
   have r1:ρ (.tmp 1)=.pointer (some ⟨w.heap.size,0,none⟩):=hS.tmp 1
   refine (show yap _ _ _ _ (fun v w''=>Ext w' w''∧v=.pointer (some ⟨w.heap.size,11,none⟩)) from ?_)
   clear hC hd hS
   go_simp
   exact Ext.refl _
 intro vals w' hC hV
 have e2:=hV 2 (by decide)
 have e5:=hV 5 (by decide)
 have e8:=hV 8 (by decide)
 have e9:=hV 9 (by decide)
 simp only [vlist,ex,List.getD_cons_zero,List.getD_cons_succ] at e2 e5 e8 e9
 have HC':=Lib.hid hC;clear hC hV
 simp only [List.drop_succ_cons,List.drop_zero]
 have hbw:w'.heap[w.heap.size]? =_:=(HC'.out.block w.heap.size (by rw [HSA.out];omega) id).trans HB0.out
 have d11:w'.cell? ⟨w.heap.size,11,none⟩=some (.string nm):=by rw [yac hbw];rfl
 have d12:w'.cell? ⟨w.heap.size,12,none⟩=some (.string ot):=by rw [yac hbw];rfl
 have d15:w'.cell? ⟨w.heap.size,15,none⟩=some (.string da):=by rw [yac hbw];rfl
 have f11:=yay hbw 11
 have f12:=yay hbw 12
 have f15:=yay hbw 15
 have HBW:=Lib.hid hbw
 clear hbw
 go_upto_region 2 with fail
 obtain ⟨wB,hwB⟩:∃ wB,wB=((w'.setCell ⟨w.heap.size,11,none⟩ (.string (shortS nm 20))).setCell ⟨w.heap.size,12,none⟩ (.string (shortS ot 20))).setCell ⟨w.heap.size,15,none⟩ (.string (shortS da 70)):=⟨_,rfl⟩
 have hbB:wB.heap[w.heap.size]? =some (.cells #[.int .i64 ty,.int .i64 cl,.int .u64 ss,.int .u64 sq,.int .u64 bo,.int .i64 kd,.int .i64 er,.int .i64 f1,.int .i64 f2,.int .i64 d1,.int .i64 d2,.string (shortS nm 20),.string (shortS ot 20),.int .i64 mo,.int .i64 pl,.string (shortS da 70),.int .u64 ve,.slice ao n cap] 62 (0,0)):=by rw [hwB];exact ybl (ybl (ybl HBW.out))
 have hxB:Ext w wB:=by rw [hwB];exact (((HXA.out.trans HC'.out).setCell (zbm _) _).setCell (zbm _) _).setCell (zbm _) _
 have hmB:Mod (fun k=>k=w.heap.size) w' wB:=by rw [hwB];exact Mod.setCell (F:=fun k=>k=w.heap.size) (Mod.setCell (F:=fun k=>k=w.heap.size) (Mod.setCell (F:=fun k=>k=w.heap.size) (Mod.refl _ _) (fun _=>rfl) _) (fun _=>rfl) _) (fun _=>rfl) _
 have hrB:wB.heap[w.heap.size+1]? =some (.cells #[.int .i64 0,.int .i64 0,.int .u64 0,.int .u64 0,.int .u64 0,.int .i64 0,.int .i64 0,.int .i64 0,.int .i64 0,.int .i64 0,.int .i64 0,.string ⟨#[]⟩,.string ⟨#[]⟩,.int .i64 0,.int .i64 0,.string ⟨#[]⟩,.int .u64 0,.slice none 0 0] 62 (0,0)):=(hmB.block _ (by have:=HC'.out.size;have:=HSA.out;omega) (by omega)).trans ((HC'.out.block _ (by rw [HSA.out];omega) id).trans HB1.out)
 rw [← hwB]
 have HBB:=Lib.hid hbB
 have HXB:=Lib.hid hxB
 have HRB:=Lib.hid hrB
 clear hwB hbB hxB hmB hrB d11 d12 d15 f11 f12 f15
 go_wp2_with fail
 go_loopw [3,4] (fun o i wr=>∃ k:Nat,k≤n∧k≤26∧i=.int .i64 k∧Ext wB wr∧∃ oo oc,o=.slice oo k oc∧wr.ownsRow wB.heap.size 129 4 o k ((shortL (en.take k)).flatMap Ent.cells)) (fun _ i _=>26 - (intOf i).toNat)
 case atStart=>exact ⟨0,Nat.zero_le _,by decide,rfl,Ext.refl _,none,0,rfl,World.ownsRow_nil _ _ _ _⟩
 case round=>
  obtain ⟨k,hk1,hk2,rfl,hx,oo,oc,rfl,ho⟩:=hrel
  have hbk:wr.heap[w.heap.size]? =_:=(hx.block w.heap.size (zbp.1 HBB.out).1 id).trans HBB.out
  have c17:wr.cell? ⟨w.heap.size,17,none⟩=some (.slice ao n cap):=by rw [yac hbk];rfl
  have HX:=Lib.hid hx
  have HO:=Lib.hid ho
  have HBK:=Lib.hid hbk
  have HRK:Hid (wr.heap[w.heap.size+1]? =_):=Lib.hid ((hx.block (w.heap.size+1) (zbp.1 HRB.out).1 id).trans HRB.out)
  clear hx ho hbk
  by_cases hlt:k<n∧k<26
  ·obtain ⟨hlt1,hlt2⟩:=hlt
   obtain ⟨⟨b,o,_⟩,rfl⟩:∃ a,ao=some a:=by
    cases ao with
    |none=>have:=H3.out rfl;omega
    |some a=>exact ⟨a,rfl⟩
   obtain ⟨d,hd⟩:∃ d,d=entAt en k:=⟨_,rfl⟩
   have hkn:k<(entKS en).n:=by show k<en.length;rw [← HN.out];exact hlt1
   obtain ⟨hs0,hc⟩:=H4.out _ rfl
   obtain rfl:=hs0 (by omega)
   have hxx:=HXB.out.trans HX.out
   obtain ⟨x0,c0,rfl⟩:=hc k hkn 0 _ rfl
   obtain ⟨x1,c1,rfl⟩:=hc k hkn 1 _ rfl
   obtain ⟨x2,c2,rfl⟩:=hc k hkn 2 _ rfl
   obtain ⟨x3,c3,rfl⟩:=hc k hkn 3 _ rfl
   replace c0:wr.cell? ⟨b,o+k * 4,none⟩=some (.string d.nm):=by rw [hd];exact hxx.cell c0
   replace c1:wr.cell? ⟨b,o+k * 4+1,none⟩=some (.int .i64 d.ino):=by rw [hd,Nat.add_assoc];exact hxx.cell c1
   replace c2:wr.cell? ⟨b,o+k * 4+2,none⟩=some (.int .i64 d.gen):=by rw [hd,Nat.add_assoc];exact hxx.cell c2
   replace c3:wr.cell? ⟨b,o+k * 4+3,none⟩=some (.int .i64 d.kind):=by rw [hd,Nat.add_assoc];exact hxx.cell c3
   have HD:=Lib.hid hd
   clear hc hd hxx
   go_upto_region 7 with fail
   go_wp2_with fail
   refine (yja d.nm 20 (by decide) _).mono ?_
   rintro e w2 ⟨rfl,rfl⟩
   obtain ⟨bb,hbb⟩:∃ bb,bb=wr.heap.size:=⟨_,rfl⟩
   obtain ⟨wC,hwC⟩:∃ wC,wC=wr.alloc (.cells #[.string d.nm,.int .i64 d.ino,.int .i64 d.gen,.int .i64 d.kind] 129):=⟨_,rfl⟩
   have hxC:Ext wr wC:=by rw [hwC];exact (Ext.refl wr).alloc _
   have hbC:wC.heap[bb]? =some (.cells #[.string d.nm,.int .i64 d.ino,.int .i64 d.gen,.int .i64 d.kind] 129 (0,0)):=by rw [hwC,hbb];exact heap_alloc_new wr _
   rw [← hbb,←hwC]
   have HBB2:Hid (wr.heap.size≤bb):=Lib.hid (by rw [hbb];exact zbm _)
   have f0:=yay hbC 0
   have e0:wC.cell? ⟨bb,0,none⟩=some (.string d.nm):=by rw [yac hbC];rfl
   have hb2:=ybl (j:=0) (v:=.string (shortS d.nm 20)) hbC
   have hx2:Ext wr (wC.setCell ⟨bb,0,none⟩ (.string (shortS d.nm 20))):=Ext.setCell hxC (by rw [hbb];exact zbm _) _
   have HB2:=Lib.hid hb2
   have HX2:=Lib.hid hx2
   clear hb2 hx2 hbC hxC hbb hwC c0 c1 c2 c3
   go_upto_region 8 with fail
   generalize wC.setCell ⟨bb,0,none⟩ (.string (shortS d.nm 20))=wD at HB2 HX2 ⊢
   have g0:wD.cell? ⟨bb,0,none⟩=some (.string (shortS d.nm 20)):=by rw [yac HB2.out];rfl
   have g1:wD.cell? ⟨bb,1,none⟩=some (.int .i64 d.ino):=by rw [yac HB2.out];rfl
   have g2:wD.cell? ⟨bb,2,none⟩=some (.int .i64 d.gen):=by rw [yac HB2.out];rfl
   have g3:wD.cell? ⟨bb,3,none⟩=some (.int .i64 d.kind):=by rw [yac HB2.out];rfl
   have HOD:=Lib.hid (ycs HO.out HX2.out)
   have HSZ:Hid (wB.heap.size≤wD.heap.size):=Lib.hid (Nat.le_trans HX.out.size HX2.out.size)
   go_wp2_with (first|(at_builtin;go_loud (refine yek rfl (.tmp 38) (.tmp 40) 60 rfl etEnt wB.heap.size rfl (ycs HOD.out ((Ext.refl wD).alloc _)) rfl (Rs.of_owns (yds (n:=1) (size:=4) (cs:=#[.string (shortS d.nm 20),.int .i64 d.ino,.int .i64 d.gen,.int .i64 d.kind]) rfl (zbm _) (by decide))) (by simp [Value.oneCell']) (by omega) (by omega) (by have:=HSZ.out;simp;omega) ?_);intro v' w1 hown hgr _)|fail)
   have hgr':Ext wB w1:=((HX.out.trans HX2.out).alloc _).grown hgr fun q hq=>(yar HOD.out hq).1
   obtain ⟨no,ncap,rfl⟩:=yer hown
   have HGR:=Lib.hid hgr'
   have HOWN:=Lib.hid hown
   clear hgr hown hgr'
   go_roundw
   case rel=>
    refine ⟨k+1,by omega,by omega,by go_num,HGR.out,no,ncap,rfl,?_⟩
    rw [yrl hlt2 (by rw [← HN.out];exact hlt1),List.flatMap_append,←HD.out]
    exact HOWN.out
   case measure=>simp [intOf];omega
  ·have hkm:shortL (en.take k)=shortL en:=by
    by_cases hk:k<n
    ·obtain rfl:k=26:=by omega
     unfold shortL
     rw [List.take_take];rfl
    ·rw [List.take_of_length_le (by rw [← HN.out];omega)]
   have hkl:(shortL en).length=k:=by
    unfold shortL
    rw [List.length_map,List.length_take,←HN.out];omega
   have HKM:=Lib.hid hkm
   have HKL:=Lib.hid hkl
   clear hkm hkl
   have hno:n≤k∨(k<n∧26≤k):=by omega
   clear hlt
   have f17:=yay HBK.out 17
   obtain ⟨wE,hwE⟩:∃ wE,wE=wr.setCell ⟨w.heap.size,17,none⟩ (.slice oo k oc):=⟨_,rfl⟩
   have hbE:wE.heap[w.heap.size]? =some (.cells #[.int .i64 ty,.int .i64 cl,.int .u64 ss,.int .u64 sq,.int .u64 bo,.int .i64 kd,.int .i64 er,.int .i64 f1,.int .i64 f2,.int .i64 d1,.int .i64 d2,.string (shortS nm 20),.string (shortS ot 20),.int .i64 mo,.int .i64 pl,.string (shortS da 70),.int .u64 ve,.slice oo k oc] 62 (0,0)):=by rw [hwE];exact ybl HBK.out
   have hmE:Mod (fun k=>k=w.heap.size) wr wE:=by rw [hwE];exact Mod.setCell (F:=fun k=>k=w.heap.size) (Mod.refl _ _) (fun _=>rfl) _
   have hrE:wE.heap[w.heap.size+1]? =some (.cells #[.int .i64 0,.int .i64 0,.int .u64 0,.int .u64 0,.int .u64 0,.int .i64 0,.int .i64 0,.int .i64 0,.int .i64 0,.int .i64 0,.int .i64 0,.string ⟨#[]⟩,.string ⟨#[]⟩,.int .i64 0,.int .i64 0,.string ⟨#[]⟩,.int .u64 0,.slice none 0 0] 62 (0,0)):=(hmE.block _ (zbp.1 HRK.out).1 (by omega)).trans HRK.out
   have HRG:Hid (wE.rangeAt w.heap.size 0 [.int .i64 ty,.int .i64 cl,.int .u64 ss,.int .u64 sq,.int .u64 bo,.int .i64 kd,.int .i64 er,.int .i64 f1,.int .i64 f2,.int .i64 d1,.int .i64 d2,.string (shortS nm 20),.string (shortS ot 20),.int .i64 mo,.int .i64 pl,.string (shortS da 70),.int .u64 ve,.slice oo k oc]):=Lib.hid (yo6 hbE)
   have HTH:Hid (wE.there (w.heap.size+1) 0 18):=Lib.hid (you hrE)
   have HXE:Hid (Ext w wE):=Lib.hid (by rw [hwE];exact (HXB.out.trans HX.out).setCell (zbm _) _)
   have hle:wB.heap.size≥w.heap.size+2:=(zbp.1 HRB.out).1
   have HOE:Hid (wE.ownsRow wB.heap.size 129 4 (.slice oo k oc) k ((shortL en).flatMap Ent.cells)):=Lib.hid (by
    rw [← HKM.out]
    exact yc2 HO.out hmE fun q hq e=>by have:=(yar HO.out hq).1;omega)
   have HLE:=Lib.hid hle
   have HWE:=Lib.hid hwE
   clear hbE hmE hrE hle hwE
   rcases hno with hno|⟨hno,hno'⟩
   all_goals
    go_upto_region 10 with fail
    rw [← HWE.out]
    go_wp2_with (first
     |(refine wpList_load_mid rfl 62 (.tmp 1) rfl w.heap.size 0 rfl _ _ HRG.out Try.underlying62 rfl (by kernel_rfl) ?_)
     |(refine wpList_store_mid rfl 62 (.tmp 2) (.tmp 44) rfl (w.heap.size+1) 0 #[.int .i64 ty,.int .i64 cl,.int .u64 ss,.int .u64 sq,.int .u64 bo,.int .i64 kd,.int .i64 er,.int .i64 f1,.int .i64 f2,.int .i64 d1,.int .i64 d2,.string (shortS nm 20),.string (shortS ot 20),.int .i64 mo,.int .i64 pl,.string (shortS da 70),.int .u64 ve,.slice oo k oc] rfl rfl HTH.out (by kernel_rfl) (by simp [Value.oneCell']) ?_)
     |fail)
    refine bodyPost_ret (v:=.agg #[.int .i64 ty,.int .i64 cl,.int .u64 ss,.int .u64 sq,.int .u64 bo,.int .i64 kd,.int .i64 er,.int .i64 f1,.int .i64 f2,.int .i64 d1,.int .i64 d2,.string (shortS nm 20),.string (shortS ot 20),.int .i64 mo,.int .i64 pl,.string (shortS da 70),.int .u64 ve,.slice oo k oc]) (yo3 Try.results33 rfl (a:=⟨w.heap.size+1,0,none⟩) (run_loadVar_mid _ _ _ _ [.int .i64 ty,.int .i64 cl,.int .u64 ss,.int .u64 sq,.int .u64 bo,.int .i64 kd,.int .i64 er,.int .i64 f1,.int .i64 f2,.int .i64 d1,.int .i64 d2,.string (shortS nm 20),.string (shortS ot 20),.int .i64 mo,.int .i64 pl,.string (shortS da 70),.int .u64 ve,.slice oo k oc] _ (World.rangeAt_setCells_same _ _ _ _ HTH.out) Try.underlying62 rfl (by kernel_rfl))) rfl ⟨_,rfl,?_,?_,?_⟩
    ·exact Mod.trans (F:=fun _=>False) HXE.out (ycv _ _ _ _) (fun i hi hl=>by omega)
    ·refine ywl (t:=129) (B:=wB.heap.size) ?_ HKL.out
     exact yc2 HOE.out (ycv _ _ _ _) (fun q hq e=>by have:=(yar HOE.out hq).1;have:=HLE.out;omega)
    ·intro q hq
     have h1:=yar HOE.out hq
     have h2:=HLE.out
     have h3:=(ycv (w.heap.size+1) [.int .i64 ty,.int .i64 cl,.int .u64 ss,.int .u64 sq,.int .u64 bo,.int .i64 kd,.int .i64 er,.int .i64 f1,.int .i64 f2,.int .i64 d1,.int .i64 d2,.string (shortS nm 20),.string (shortS ot 20),.int .i64 mo,.int .i64 pl,.string (shortS da 70),.int .u64 ve,.slice oo k oc] 0 wE).size
     exact ⟨by omega,Nat.lt_of_lt_of_le h1.2 h3⟩
end Mm
end Go.Proofs.Ytiiekgcjilelpaa
