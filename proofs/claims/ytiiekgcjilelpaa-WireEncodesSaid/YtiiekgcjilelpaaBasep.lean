/- Base. -/
import Derived.Test.YtiiekgcjilelpaaRows
import Derived.WalkKit
import Derived.WalkSpells
import Derived.WalkLawsBesides
import Derived.Deep.QuietTactic
import Derived.BigQuiet
import Derived.Lib.Hide
import Derived.Laws.AppendOwnNone
import Derived.Lib.SliceRun
open List renaming getElem?_eq_getElem → zaa, mem_map → zbf
open Nat renaming lt_of_lt_of_le → zbh, le_refl → zbm
set_option linter.unusedSimpArgs false
set_option linter.unusedVariables false
namespace Go.Proofs.Ytiiekgcjilelpaa
open Go.RowKit
theorem ma {α:Type} {l:List α} {x:α} (k:Nat) (h:l[k]? =some x):x∈l:=List.mem_of_getElem? h
theorem ylr (ao:Option Addr) (n c:Nat):(Value.slice ao n c).ownBlock=ao.map (·.block):=by cases ao<;>rfl
def bv (x:UInt8):Value:=.int .u8 (x.toNat:Int)
structure Mod (F:Nat→Prop) (w w':World):Prop where
 os:w'.os=w.os
 tape:w'.tape=w.tape
 output:w'.output=w.output
 size:w.heap.size≤w'.heap.size
 block:∀ k,k<w.heap.size→¬ F k→w'.heap[k]? =w.heap[k]?
def Ext (w w':World):Prop:=Mod (fun _=>False) w w'
theorem Mod.refl (F:Nat→Prop) (w:World):Mod F w w:=⟨rfl,rfl,rfl,zbm _,fun _ _ _=>rfl⟩
theorem Ext.refl (w:World):Ext w w:=Mod.refl _ w
theorem Mod.trans {F G:Nat→Prop} {a b c:World} (h:Mod F a b) (k:Mod G b c) (hG:∀ i,G i→i<a.heap.size→F i):Mod F a c:=
 ⟨k.os.trans h.os,k.tape.trans h.tape,k.output.trans h.output,Nat.le_trans h.size k.size,
  fun i hi hn=>(k.block i (zbh hi h.size) (fun g=>hn (hG i g hi))).trans (h.block i hi hn)⟩
theorem Ext.trans {a b c:World} (h:Ext a b) (k:Ext b c):Ext a c:=Mod.trans h k (fun _ h _=>h)
theorem Mod.mono {F G:Nat→Prop} {a b:World} (h:Mod F a b) (hG:∀ i,i<a.heap.size→F i→G i):Mod G a b:=
 ⟨h.os,h.tape,h.output,h.size,fun i hi hn=>h.block i hi (fun f=>hn (hG i hi f))⟩
theorem Mod.ext {F:Nat→Prop} {a b c:World} (h:Mod F a b) (k:Ext b c):Mod F a c:=Mod.trans h k (fun _ h _=>h.elim)
theorem Ext.mod {F:Nat→Prop} {a b:World} (h:Ext a b):Mod F a b:=h.mono fun _ _ f=>f.elim
theorem Ext.below {a b:World} (h:Ext a b):Below a.heap.size a b:=⟨h.os,h.tape,h.output,h.size,fun k hk=>h.block k hk id⟩
theorem Mod.below {F:Nat→Prop} {B:Nat} {a b:World} (h:Mod F a b) (hB:B≤a.heap.size) (hF:∀ k,F k→B≤k):Below B a b:=
 ⟨h.os,h.tape,h.output,h.size,fun k hk=>h.block k (by omega) (fun f=>by have:=hF k f;omega)⟩
theorem Ext.drewN {a b:World} (h:Ext a b) (n:Nat):Ext a (b.drewN n):=h.trans ⟨rfl,rfl,rfl,zbm _,fun _ _ _=>rfl⟩
theorem Ext.drew {a b:World} (h:Ext a b):Ext a b.drew:=h.trans ⟨rfl,rfl,rfl,zbm _,fun _ _ _=>rfl⟩
theorem Ext.alloc {a b:World} (h:Ext a b) (o:Obj):Ext a (b.alloc o):=
 h.trans ⟨rfl,rfl,rfl,by simp,fun k hk _=>Below.heap_alloc _ _ _ hk⟩
theorem Mod.drewN {F:Nat→Prop} {a b:World} (h:Mod F a b) (n:Nat):Mod F a (b.drewN n):=h.ext ((Ext.refl _).drewN n)
theorem Mod.drew {F:Nat→Prop} {a b:World} (h:Mod F a b):Mod F a b.drew:=h.ext (Ext.refl _).drew
theorem Mod.alloc {F:Nat→Prop} {a b:World} (h:Mod F a b) (o:Obj):Mod F a (b.alloc o):=h.ext ((Ext.refl _).alloc o)
theorem Mod.setCell {F:Nat→Prop} {a b:World} (h:Mod F a b) {p:Addr} (hp:p.block<a.heap.size→F p.block) (u:Value):Mod F a (b.setCell p u):=
 Mod.trans (G:=(·=p.block)) h ⟨rfl,rfl,rfl,by simp [World.setCell],fun k _ hn=>Below.heap_setCell _ _ _ _ hn⟩ (fun i hi hl=>by subst hi;exact hp hl)
theorem Ext.setCell {a b:World} (h:Ext a b) {p:Addr} (hp:a.heap.size≤p.block) (u:Value):Ext a (b.setCell p u):=Mod.setCell h (fun hl=>by omega) u
theorem Ext.grown {a b c:World} {row:Option Nat} (h:Ext a b) (hg:b.grownBy c row) (hr:∀ k,row=some k→a.heap.size≤k):Ext a c:=
 Mod.trans (G:=fun k=>row=some k) h ⟨hg.os,hg.tape,hg.output,hg.size,fun k hk hn=>hg.block k hk (fun e=>hn e.symm)⟩ (fun i hi hl=>by have:=hr i hi;omega)
theorem Mod.grown {F:Nat→Prop} {a b c:World} {row:Option Nat} (h:Mod F a b) (hg:b.grownBy c row) (hr:∀ k,row=some k→k<a.heap.size→F k):Mod F a c:=
 Mod.trans (G:=fun k=>row=some k) h ⟨hg.os,hg.tape,hg.output,hg.size,fun k hk hn=>hg.block k hk (fun e=>hn e.symm)⟩ hr
theorem Mod.cell {F:Nat→Prop} {w w':World} (h:Mod F w w') {p:Addr} {v:Value} (hc:w.cell? p=some v) (hn:¬ F p.block):w'.cell? p=some v:=
 (World.cell?_of_block (h.block p.block (World.block_lt_of_cell? w p hc) hn)).trans hc
theorem Ext.cell {w w':World} (h:Ext w w') {p:Addr} {v:Value} (hc:w.cell? p=some v):w'.cell? p=some v:=Mod.cell h hc id
theorem Mod.frozen {F:Nat→Prop} {w w':World} (h:Mod F w w') {p:Addr} (hl:p.block<w.heap.size) (hn:¬ F p.block) {b:Bool} (hf:w.frozen? p=b):w'.frozen? p=b:=
 (World.frozen?_of_block (h.block p.block hl hn)).trans hf
theorem Ext.frozen {w w':World} (h:Ext w w') {p:Addr} (hl:p.block<w.heap.size) {b:Bool} (hf:w.frozen? p=b):w'.frozen? p=b:=Mod.frozen h hl id hf
theorem ygc (a:Addr) (i:Nat):(a.add i).block=a.block:=by unfold Addr.add;split<;>rfl
theorem yd5 (a:Addr):a.add 0=a:=by simp [Addr.add]
theorem yuw (a:Addr) (i j:Nat):(a.add i).add j=a.add (i+j):=by
 unfold Addr.add
 by_cases hi:i=0<;>by_cases hj:j=0<;>simp [hi,hj,Nat.add_assoc]
theorem add_head (g i:Nat):(⟨g,0,none⟩:Addr).add i=⟨g,i,none⟩:=by unfold Addr.add;split<;>simp_all
def Rs (w:World) (sz:Nat) (v:Value) (n:Nat) (xs:List Value):Prop:=
 xs.length=n * sz∧∃ ao cap,v=.slice ao n cap∧n≤cap∧cap≤maxLen∧(ao=none→cap=0)∧
  ∀ a,ao=some a→∀ j u,xs[j]? =some u→w.cell? (a.add j)=some u
def Bs (w:World) (v:Value) (l:List UInt8):Prop:=Rs w 1 v l.length (l.map bv)
def iv (x:Int):Value:=.int .i64 x
def Is (w:World) (v:Value) (l:List Int):Prop:=Rs w 1 v l.length (l.map iv)
theorem Rs.nil (w:World) (sz:Nat):Rs w sz (.slice none 0 0) 0 []:=⟨by simp,none,0,rfl,zbm _,by decide,fun _=>rfl,fun a h=>by cases h⟩
theorem Bs.nil (w:World):Bs w (.slice none 0 0) []:=Rs.nil w 1
theorem Is.nil (w:World):Is w (.slice none 0 0) []:=Rs.nil w 1
theorem Rs.keep {w w':World} {sz:Nat} {v:Value} {n:Nat} {xs:List Value} (h:Rs w sz v n xs)
  (hk:∀ k,v.ownBlock=some k→k<w.heap.size→w'.heap[k]? =w.heap[k]?):Rs w' sz v n xs:=by
 obtain ⟨h1,ao,cap,rfl,h2,h3,h4,h5⟩:=h
 refine ⟨h1,ao,cap,rfl,h2,h3,h4,fun a ha j u hu=>?_⟩
 have:=h5 a ha j u hu
 have hlt:=World.block_lt_of_cell? w _ this
 rw [ygc] at hlt
 exact (World.cell?_of_block (by rw [ygc];exact hk a.block (by simp [ha,Value.ownBlock]) hlt)).trans this
theorem Rs.mod {F:Nat→Prop} {w w':World} {sz:Nat} {v:Value} {n:Nat} {xs:List Value} (h:Rs w sz v n xs) (hm:Mod F w w')
  (hk:∀ k,v.ownBlock=some k→k<w.heap.size→¬ F k):Rs w' sz v n xs:=h.keep fun k hk' hl=>hm.block k hl (hk k hk' hl)
theorem Rs.ext {w w':World} {sz:Nat} {v:Value} {n:Nat} {xs:List Value} (h:Rs w sz v n xs) (hm:Ext w w'):Rs w' sz v n xs:=h.mod hm fun _ _ _=>id
theorem Bs.ext {w w':World} {v:Value} {l:List UInt8} (h:Bs w v l) (hm:Ext w w'):Bs w' v l:=Rs.ext h hm
theorem Is.ext {w w':World} {v:Value} {l:List Int} (h:Is w v l) (hm:Ext w w'):Is w' v l:=Rs.ext h hm
theorem Bs.mod {F:Nat→Prop} {w w':World} {v:Value} {l:List UInt8} (h:Bs w v l) (hm:Mod F w w')
  (hk:∀ k,v.ownBlock=some k→k<w.heap.size→¬ F k):Bs w' v l:=Rs.mod h hm hk
theorem Is.mod {F:Nat→Prop} {w w':World} {v:Value} {l:List Int} (h:Is w v l) (hm:Mod F w w')
  (hk:∀ k,v.ownBlock=some k→k<w.heap.size→¬ F k):Is w' v l:=Rs.mod h hm hk
theorem Bs.drewN {w:World} {v:Value} {l:List UInt8} (h:Bs w v l) (n:Nat):Bs (w.drewN n) v l:=h.ext ((Ext.refl w).drewN n)
theorem Is.drewN {w:World} {v:Value} {l:List Int} (h:Is w v l) (n:Nat):Is (w.drewN n) v l:=h.ext ((Ext.refl w).drewN n)
theorem Rs.open {w:World} {sz:Nat} {v:Value} {n:Nat} {xs:List Value} (h:Rs w sz v n xs):
  ∃ ao cap,v=.slice ao n cap∧n≤cap∧cap≤maxLen∧(ao=none→cap=0)∧xs.length=n * sz∧∀ a,ao=some a→∀ j u,xs[j]? =some u→w.cell? (a.add j)=some u:=by
 obtain ⟨h1,ao,cap,h2,h3,h4,h5,h6⟩:=h
 exact ⟨ao,cap,h2,h3,h4,h5,h1,h6⟩
theorem Bs.open {w:World} {v:Value} {l:List UInt8} (h:Bs w v l):
  ∃ ao cap,v=.slice ao l.length cap∧l.length≤cap∧cap≤9223372036854775807∧(ao=none→cap=0)∧
   ∀ a,ao=some a→∀ i,i<l.length→w.cell? (a.add i)=some (.int .u8 ((l.getD i 0).toNat:Int)):=by
 obtain ⟨ao,cap,h2,h3,h4,h5,h1,h6⟩:=Rs.open h
 refine ⟨ao,cap,h2,h3,h4,h5,fun a ha i hi=>h6 a ha i _ ?_⟩
 simp [zaa hi,bv,List.getD]
theorem Is.open {w:World} {v:Value} {l:List Int} (h:Is w v l):
  ∃ ao cap,v=.slice ao l.length cap∧l.length≤cap∧cap≤9223372036854775807∧(ao=none→cap=0)∧
   ∀ a,ao=some a→∀ i,i<l.length→w.cell? (a.add i)=some (.int .i64 (l.getD i 0)):=by
 obtain ⟨ao,cap,h2,h3,h4,h5,h1,h6⟩:=Rs.open h
 refine ⟨ao,cap,h2,h3,h4,h5,fun a ha i hi=>h6 a ha i _ ?_⟩
 simp [zaa hi,iv,List.getD]
theorem Rs.cut {w:World} {sz:Nat} {ao:Option Addr} {n cap:Nat} {xs:List Value} (h:Rs w sz (.slice ao n cap) n xs) {k m:Nat} (hkm:k≤m) (hm:m≤n) {ao':Option Addr} {cap':Nat}
  (hcap:m - k≤cap') (hcap':cap'≤maxLen) (hnone:ao'=none→cap'=0) (hao:∀ a',ao'=some a'→k<m→∃ a,ao=some a∧a'=a.add (k * sz)):
  Rs w sz (.slice ao' (m - k) cap') (m - k) ((xs.drop (k * sz)).take ((m - k) * sz)):=by
 obtain ⟨h1,ao0,cap0,h2,h3,h4,h5,h6⟩:=h
 simp only [Value.slice.injEq] at h2
 obtain ⟨rfl,_,rfl⟩:=h2
 have hle:k * sz+(m - k) * sz≤n * sz:=by rw [← Nat.add_mul];exact Nat.mul_le_mul_right _ (by omega)
 refine ⟨by rw [List.length_take,List.length_drop,h1];omega,ao',cap',rfl,hcap,hcap',hnone,fun a' ha' j u hu=>?_⟩
 rw [List.getElem?_take] at hu
 split at hu
 ·rename_i hj
  have hlt:k<m:=by
   rcases Nat.lt_or_ge k m with h|h
   ·exact h
   ·have:m - k=0:=by omega
    rw [this] at hj;omega
  obtain ⟨a,ha,rfl⟩:=hao a' ha' hlt
  rw [yuw]
  rw [List.getElem?_drop] at hu
  exact h6 a ha _ _ hu
 ·cases hu
theorem Rs.of_owns {w:World} {base:Nat} {e:TypeId} {sz:Nat} {v:Value} {n:Nat} {xs:List Value} (h:w.ownsRow base e sz v n xs):Rs w sz v n xs:=by
 refine ⟨h.1,?_⟩
 rcases h.2 with ⟨rfl,rfl⟩|⟨g,cap,cur,rfl,hb,hg,h1,h2,h3,h4⟩
 ·exact ⟨none,0,rfl,zbm _,by decide,fun _=>rfl,fun a h=>by cases h⟩
 ·refine ⟨some ⟨g,0,none⟩,cap,rfl,h1,h2,(fun h=>by cases h),fun a ha j u hu=>?_⟩
  cases ha
  exact World.ownsRow.cells ⟨h.1,.inr ⟨g,cap,cur,rfl,hb,hg,h1,h2,h3,h4⟩⟩ rfl j u hu
theorem Bs.sub {w:World} {ao:Option Addr} {n cap:Nat} {l:List UInt8} (h:Bs w (.slice ao n cap) l) {k m:Nat} (hkm:k≤m) (hm:m≤n) {ao':Option Addr} {cap':Nat}
  (hcap:m - k≤cap') (hcap':cap'≤9223372036854775807) (hnone:ao'=none→cap'=0) (hao:∀ a',ao'=some a'→k<m→∃ a,ao=some a∧a'=a.add k):
  Bs w (.slice ao' (m - k) cap') ((l.drop k).take (m - k)):=by
 have hn:n=l.length:=by obtain ⟨_,ao0,cap0,h2,_⟩:=h;simp only [Value.slice.injEq] at h2;exact h2.2.1
 subst hn
 have:=Rs.cut h hkm hm hcap hcap' hnone (by simpa using hao)
 have e:((l.drop k).take (m - k)).length=m - k:=by simp;omega
 unfold Bs
 rw [e]
 simpa [List.map_drop,List.map_take] using this
theorem Bs.take {w:World} {ao:Option Addr} {n cap:Nat} {l:List UInt8} (h:Bs w (.slice ao n cap) l) {k:Nat} (hk:k≤n):Bs w (.slice ao k cap) (l.take k):=by
 have h':=h
 obtain ⟨_,ao0,cap0,h2,h3,h4,h5,h6⟩:=h'
 simp only [Value.slice.injEq] at h2
 obtain ⟨rfl,rfl,rfl⟩:=h2
 have:=Bs.sub (k:=0) (m:=k) h (Nat.zero_le _) hk (by omega) h4 h5 (fun a' ha _=>⟨a',ha,by rw [yd5]⟩)
 simpa using this
theorem Bs.len {w:World} {ao:Option Addr} {n cap:Nat} {l:List UInt8} (h:Bs w (.slice ao n cap) l):n=l.length:=by
 obtain ⟨_,ao0,cap0,h2,_⟩:=h;simp only [Value.slice.injEq] at h2;exact h2.2.1
theorem Is.len {w:World} {ao:Option Addr} {n cap:Nat} {l:List Int} (h:Is w (.slice ao n cap) l):n=l.length:=by
 obtain ⟨_,ao0,cap0,h2,_⟩:=h;simp only [Value.slice.injEq] at h2;exact h2.2.1
theorem yer {w:World} {base:Nat} {e:TypeId} {sz:Nat} {v:Value} {n:Nat} {xs:List Value} (h:w.ownsRow base e sz v n xs):∃ ao cap,v=.slice ao n cap:=by
 rcases h.2 with ⟨rfl,rfl⟩|⟨g,cap,cur,rfl,_⟩
 ·exact ⟨none,0,rfl⟩
 ·exact ⟨_,_,rfl⟩
theorem ypd {w w':World} {base:Nat} {e:TypeId} {sz:Nat} {v:Value} {n:Nat} {xs:List Value} (h:w.ownsRow base e sz v n xs)
  (hk:∀ k,v.ownBlock=some k→k<w.heap.size→w'.heap[k]? =w.heap[k]?):w'.ownsRow base e sz v n xs:=by
 refine ⟨h.1,?_⟩
 rcases h.2 with hn|⟨g,cap,cur,rfl,hb,hgg,rest⟩
 ·exact .inl hn
 ·exact .inr ⟨g,cap,cur,rfl,hb,(hk g rfl (Array.getElem?_eq_some_iff.1 hgg).1).trans hgg,rest⟩
theorem yc2 {F:Nat→Prop} {w w':World} {base:Nat} {e:TypeId} {sz:Nat} {v:Value} {n:Nat} {xs:List Value} (h:w.ownsRow base e sz v n xs) (hm:Mod F w w')
  (hk:∀ k,v.ownBlock=some k→¬ F k):w'.ownsRow base e sz v n xs:=ypd h fun k hk' hl=>hm.block k hl (hk k hk')
theorem ycs {w w':World} {base:Nat} {e:TypeId} {sz:Nat} {v:Value} {n:Nat} {xs:List Value} (h:w.ownsRow base e sz v n xs) (hm:Ext w w'):w'.ownsRow base e sz v n xs:=yc2 h hm fun _ _=>id
theorem ycw {w:World} {base:Nat} {e:TypeId} {sz:Nat} {v:Value} {n:Nat} {xs:List Value} (h:w.ownsRow base e sz v n xs) {p:Addr} {u:Value}
  (hk:v.ownBlock≠some p.block):(w.setCell p u).ownsRow base e sz v n xs:=ypd h fun k hk' _=>Below.heap_setCell _ _ _ _ (fun e=>hk (by rw [hk',e]))
theorem yar {w:World} {base:Nat} {e:TypeId} {sz:Nat} {v:Value} {n:Nat} {xs:List Value} (h:w.ownsRow base e sz v n xs) {k:Nat} (hk:v.ownBlock=some k):base≤k∧k<w.heap.size:=World.ownsRow.lt h k hk
theorem yb6 {w:World} {B:Nat} {e t:TypeId} {sz n:Nat} {v:Value} {xs:List Value} (h:w.ownsRow B e sz v n xs) {k:Nat} {c:Array Value} {fr:Nat×Nat} (hb:w.heap[k]? =some (.cells c t fr)) (he:e≠t):v.ownBlock≠some k:=by
 rcases h.2 with ⟨rfl,_⟩|⟨g,cap,cur,rfl,hb',hgg,rest⟩
 ·exact fun h=>by cases h
 ·intro hk;cases hk
  rw [hgg] at hb
  simp only [Option.some.injEq,Obj.cells.injEq] at hb
  exact he hb.2.1
theorem yds {w:World} {B n size:Nat} {e:TypeId} {cs:Array Value} (hs:cs.size=n * size) (hB:B≤w.heap.size) (hn:n≤maxLen):
  (w.alloc (.cells cs e)).ownsRow B e size (.slice (some ⟨w.heap.size,0,none⟩) n n) n cs.toList:=by
 refine ⟨by simpa using hs,.inr ⟨w.heap.size,n,cs,rfl,hB,heap_alloc_new w _,zbm _,hn,hs,?_⟩⟩
 rw [List.take_of_length_le (by simp [hs])]
theorem Mod.grown_row {w w':World} {row:Option Nat} (hg:w.grownBy w' row):Mod (fun k=>row=some k) w w':=
 ⟨hg.os,hg.tape,hg.output,hg.size,fun k hk hn=>hg.block k hk (fun e=>hn e.symm)⟩
def ElemT (P:Program) (t e:TypeId) (size bytes:Nat):Prop:=
 ∃ i z,P.underlying t=some (.slice e)∧P.info? e=some i∧i.zero=some z∧i.size=size∧i.bytes=bytes∧z.cells.size=size∧0<size
theorem ElemT.mk' {P:Program} {t e:TypeId} {z:Value} {size bytes:Nat} (ht:P.underlying t=some (.slice e))
  (hi:(P.info? e).map (fun i=>(i.zero,i.size,i.bytes))=some (some z,size,bytes)) (hz:z.cells.size=size) (hs:0<size):ElemT P t e size bytes:=by
 obtain ⟨i,h1,h2,h3,h4⟩:=info_parts hi
 exact ⟨i,z,ht,h1,h2,h3,h4,hz,hs⟩
theorem yek {P:Program} {ops:Array Oper} {rest:List Oper} {o:Oper} {a:Act} {w:World} {Q:Exit→Act→World→Prop} (hgd:o.guard=none) (s x:Operand) (t:TypeId)
  (ho:o.op=.call { callee:=.builtin .append,args:=#[s,x],argTypes:=#[t,t] }) {e:TypeId} {size bytes:Nat} (hE:ElemT P t e size bytes) (base:Nat)
  {v:Value} {n:Nat} {xs:List Value} (hs:a.eval s=v) (hown:w.ownsRow base e size v n xs)
  {u:Value} {m:Nat} {news:List Value} (hx:a.eval x=u) (hR:Rs w size u m news) (h1:∀ u∈news,u.oneCell'=true)
  (h63:n+m≤9223372036854775807) (hbytes:(n+m) * bytes≤140737488355328) (hbase:base≤w.heap.size)
  (h:∀ v' w',w'.ownsRow base e size v' (n+m) (xs++news)→w.grownBy w' v.ownBlock→(v'=.slice none 0 0↔v=.slice none 0 0∧m=0)→wpList P ops Q rest (a.put o.dst v') w'):
  wpList P ops Q (o::rest) a w:=by
 obtain ⟨i,z,h2,h3,h4,h5,h6,h7,h8⟩:=hE
 obtain ⟨ao,cap,rfl,r1,r2,r3,r4,r5⟩:=hR.open
 cases ao with
 |none=>
  have hc:=r3 rfl
  subst hc
  have hm:m=0:=by omega
  subst hm
  have hn:news=[]:=List.eq_nil_of_length_eq_zero (by simpa using r4)
  subst hn
  refine wpList_append_own_none hgd s x t ho base e i size h2 h3 v n xs hs hown hx ?_
  refine h v w (by simpa using hown) ⟨rfl,rfl,rfl,zbm _,fun _ _ _=>rfl⟩ (by simp)
 |some ad=>
  exact wpList_append_own w hgd s x t ho base e i z size bytes h2 h3 h4 h5 h6 h7 h8 v n xs hs hown ad m cap news hx r4 (r5 ad rfl) h1 (by simpa [maxLen] using h63) hbytes hbase h
theorem yb3 (l:List UInt8):∀ u∈l.map bv,u.oneCell'=true:=by
 intro u hu
 obtain ⟨x,_,rfl⟩:=zbf.1 hu
 rfl
theorem yl5 (l:List Int):∀ u∈l.map iv,u.oneCell'=true:=by
 intro u hu
 obtain ⟨x,_,rfl⟩:=zbf.1 hu
 rfl
def Under (T:Nat) (v:Value):Prop:=∀ k,v.ownBlock=some k→k<T
theorem Under.mono {T T':Nat} {v:Value} (h:Under T v) (hT:T≤T'):Under T' v:=fun k hk=>zbh (h k hk) hT
end Go.Proofs.Ytiiekgcjilelpaa
