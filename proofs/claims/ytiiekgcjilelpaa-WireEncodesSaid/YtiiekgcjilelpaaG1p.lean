/- G1. -/
import Derived.Test.YtiiekgcjilelpaaBasep
import Derived.Test.YtiiekgcjilelpaaG0p
import Derived.Laws.OwnMore
import Derived.Deep.AppendLies
import Derived.RegionTactic
import Derived.Deep.CutBlock
import Derived.Deep.DeepCutAuto
import Derived.Laws.Bits64
import Derived.Laws.BitsAllLaws
import Derived.Deep.QuietTactic
open List renaming getElem?_eq_getElem → zaa, length_append → zae, length_take → zam, take_of_length_le → zaq, getElem?_cons_succ → zat, length_drop → zav, eq_nil_of_length_eq_zero → zaw, length_cons → zax, map_append → zba
open Nat renaming lt_of_lt_of_le → zbh, le_of_lt → zbj, le_refl → zbm
open Array renaming getElem?_eq_some_iff → zbp
set_option linter.unusedSimpArgs false
set_option linter.unusedVariables false
namespace Go.Proofs.Ytiiekgcjilelpaa
def yaf (x:Nat):Nat→List Bool
 |0=>[]
 |n+1=>x.testBit n::yaf x n
def yvj:Nat→List Bool→Nat
 |v,[]=>v
 |v,b::l=>yvj (2 * v+b.toNat) l
def val (l:List Bool):Nat:=yvj 0 l
theorem yae (x:Nat):∀ n,(yaf x n).length=n
 |0=>rfl
 |n+1=>by simp [yaf,yae x n]
theorem ym6:∀ (l:List Bool) (v:Nat),yvj v l=v * 2 ^ l.length+val l
 |[],v=>by simp [yvj,val]
 |b::l,v=>by
  have h1:=ym6 l (2 * v+b.toNat)
  have h2:=ym6 l (2 * 0+b.toNat)
  simp only [val,yvj,zax]
  rw [h1,h2,Nat.pow_succ,Nat.add_mul,Nat.add_mul]
  have:2 * v * 2 ^ l.length=v * (2 ^ l.length * 2):=by rw [Nat.mul_comm 2 v,Nat.mul_assoc,Nat.mul_comm 2]
  omega
theorem yh3:val []=0:=rfl
theorem yhf (b:Bool) (l:List Bool):val (b::l)=b.toNat * 2 ^ l.length+val l:=by
 rw [val,yvj,ym6];simp
theorem yge:∀ (c d:List Bool),val (c++d)=val c * 2 ^ d.length+val d
 |[],d=>by simp [yh3]
 |b::c,d=>by
  rw [List.cons_append,yhf,yhf,yge c d,zae,Nat.pow_add,Nat.add_mul,Nat.mul_assoc]
  omega
theorem yly:∀ l:List Bool,val l<2 ^ l.length
 |[]=>by simp [yh3]
 |b::l=>by
  have h1:=yly l
  rw [yhf,zax,Nat.pow_succ]
  cases b<;>simp<;>omega
theorem yh4 (x:Nat):∀ n,val (yaf x n)=x % 2 ^ n
 |0=>by simp [yaf,yh3,Nat.mod_one]
 |n+1=>by
  rw [yaf,yhf,yae,yh4 x n,Nat.pow_succ,Nat.mod_mul,Nat.testBit_eq_decide_div_mod_eq]
  have h2:x / 2 ^ n % 2<2:=Nat.mod_lt _ (by decide)
  rcases (show x / 2 ^ n % 2=0∨x / 2 ^ n % 2=1 by omega) with h|h<;>rw [h]<;>simp<;>omega
theorem yga (x:Nat) (k:Nat):∀ m,yaf x (m+k)=yaf (x >>> k) m++yaf x k
 |0=>by simp [yaf]
 |m+1=>by
  rw [Nat.add_right_comm,yaf,yaf,yga x k m,List.cons_append]
  congr 1
  rw [Nat.testBit_shiftRight,Nat.add_comm]
theorem bitsOf_getElem? (x:Nat):∀ (n i:Nat),i<n→(yaf x n)[i]? =some (x.testBit (n - 1 - i))
 |0,_,h=>absurd h (by omega)
 |n+1,0,_=>by simp [yaf]
 |n+1,i+1,h=>by
  rw [yaf,zat,bitsOf_getElem? x n i (by omega)]
  congr 2;omega
theorem yld (x:Nat) {n r:Nat} (h:r≤n):(yaf x n).drop r=yaf x (n - r):=by
 have:=yga x (n - r) r
 rw [show r+(n - r)=n by omega] at this
 rw [this,List.drop_append_of_le_length (by rw [yae];exact zbm _),List.drop_of_length_le (by rw [yae];exact zbm _),List.nil_append]
theorem ylc (x:Nat) {n k:Nat} (h:k≤n):(yaf x n).take k=yaf (x >>> (n - k)) k:=by
 have:=yga x (n - k) k
 rw [show k+(n - k)=n by omega] at this
 rw [this,List.take_append_of_le_length (by rw [yae];exact zbm _),zaq (by rw [yae];exact zbm _)]
def yd3 (c:List Bool):Nat:=val c * 2 ^ (8 - c.length)
def yfn (c:List Bool):UInt8:=UInt8.ofNat (yd3 c)
theorem yun {c:List Bool} (h:c.length≤8):yd3 c<256:=by
 unfold yd3
 have h1:val c * 2 ^ (8 - c.length)<2 ^ c.length * 2 ^ (8 - c.length):=Nat.mul_lt_mul_of_pos_right (yly c) (Nat.two_pow_pos _)
 rw [← Nat.pow_add,show c.length+(8 - c.length)=8 by omega] at h1
 exact h1
theorem yiz {c:List Bool} (h:c.length≤8):(yfn c).toNat=yd3 c:=by
 unfold yfn
 rw [UInt8.toNat_ofNat']
 exact Nat.mod_eq_of_lt (yun h)
theorem yqj {c d:List Bool} (h:c.length+d.length≤8):yd3 (c++d)=yd3 c+val d * 2 ^ (8 - c.length - d.length):=by
 unfold yd3
 rw [yge,zae,Nat.add_mul,Nat.mul_assoc,←Nat.pow_add,show d.length+(8 - (c.length+d.length))=8 - c.length by omega,Nat.sub_sub]
theorem byteN_lor {c d:List Bool} (h:c.length+d.length≤8):yd3 c ||| val d * 2 ^ (8 - c.length - d.length)=yd3 (c++d):=by
 rw [yqj h]
 unfold yd3
 have e:val d * 2 ^ (8 - c.length - d.length)<2 ^ (8 - c.length):=by
  have h1:val d * 2 ^ (8 - c.length - d.length)<2 ^ d.length * 2 ^ (8 - c.length - d.length):=Nat.mul_lt_mul_of_pos_right (yly d) (Nat.two_pow_pos _)
  rwa [← Nat.pow_add,show d.length+(8 - c.length - d.length)=8 - c.length by omega] at h1
 rw [← Nat.shiftLeft_eq (val c),Nat.shiftLeft_add_eq_or_of_lt e]
def yao (l:List Bool):List UInt8:=(List.range ((l.length+7) / 8)).map fun i=>yfn ((l.drop (8 * i)).take 8)
theorem yco (l:List Bool):(yao l).length=(l.length+7) / 8:=by simp [yao]
theorem yfc {a c:List Bool} (ha:a.length % 8=0) (hc:c.length≤8) (h0:c≠[]):yao (a++c)=yao a++[yfn c]:=by
 have h1:0<c.length:=List.length_pos_iff.2 h0
 unfold yao
 rw [show ((a++c).length+7) / 8=(a.length+7) / 8+1 by rw [zae];omega,List.range_succ,zba]
 congr 1
 ·refine List.map_congr_left fun i hi=>?_
  rw [List.mem_range] at hi
  congr 1
  rw [List.drop_append_of_le_length (by omega),List.take_append_of_le_length (by rw [zav];omega)]
 ·rw [List.map_cons,List.map_nil]
  rw [show 8 * ((a.length+7) / 8)=a.length by omega,List.drop_append_of_le_length (zbm _),List.drop_of_length_le (zbm _),List.nil_append,zaq hc]
def ya4 (l:List UInt8):List Bool:=l.flatMap fun b=>yaf b.toNat 8
theorem ybr:∀ l:List UInt8,(ya4 l).length=8 * l.length
 |[]=>rfl
 |b::l=>by
  have h:=ybr l
  unfold ya4 at h ⊢
  rw [List.flatMap_cons,zae,h,yae,zax]
  omega
theorem yei (l m:List UInt8):ya4 (l++m)=ya4 l++ya4 m:=List.flatMap_append
theorem yoe (l:List UInt8) (at' k:Nat) (h:at' / 8<l.length) (hk:at' % 8+k≤8):
  ((ya4 l).drop at').take k=yaf ((l.getD (at' / 8) 0).toNat >>> (8 - at' % 8 - k)) k:=by
 obtain ⟨u,b,v,rfl,hu⟩:∃ u b v,l=u++b::v∧u.length=at' / 8:=
  ⟨l.take (at' / 8),l[at' / 8],l.drop (at' / 8+1),by rw [← List.drop_eq_getElem_cons h,List.take_append_drop],by rw [zam];omega⟩
 have e1:(u++b::v).getD (at' / 8) 0=b:=by rw [← hu];simp [List.getD]
 rw [e1,yei,show b::v=[b]++v from rfl,yei]
 have e2:ya4 [b]=yaf b.toNat 8:=by simp [ya4]
 rw [e2]
 have e3:at'=(ya4 u).length+at' % 8:=by rw [ybr,hu];omega
 have e4:List.drop at' (ya4 u++(yaf b.toNat 8++ya4 v))=List.drop (at' % 8) (yaf b.toNat 8++ya4 v):=by
  conv=>lhs;rw [e3]
  rw [List.drop_append]
  simp
 rw [e4,List.drop_append_of_le_length (by rw [yae];omega),yld _ (by omega),List.take_append_of_le_length (by rw [yae];omega),ylc _ (by omega)]
end Go.Proofs.Ytiiekgcjilelpaa
namespace Go.Proofs.Ytiiekgcjilelpaa
open Go.RowKit
def yit (l:List Bool):Nat:=if l.length % 8=0 then 8 else l.length % 8
def WrIs (w:World) (B wb:Nat) (l:List Bool) (err:Int):Prop:=
 ∃ ao cap,w.heap[wb]? =some (.cells #[.bool true,.slice ao (yao l).length cap,.int .i64 (yit l:Int),.int .i64 err] 277 (0,0))∧B≤wb∧
  w.ownsRow B 5 1 (.slice ao (yao l).length cap) (yao l).length ((yao l).map bv)
def WrF (w:World) (wb:Nat) (k:Nat):Prop:=k=wb∨∃ v,w.cell? ⟨wb,1,none⟩=some v∧v.ownBlock=some k
def WrMod (wb:Nat) (w w':World):Prop:=Mod (WrF w wb) w w'∧∀ k,WrF w' wb k→k<w.heap.size→WrF w wb k
theorem WrMod.trans {wb:Nat} {a b c:World} (h:WrMod wb a b) (k:WrMod wb b c):WrMod wb a c:=
 ⟨h.1.trans k.1 h.2,fun i hi hl=>h.2 i (k.2 i hi (zbh hl h.1.size)) hl⟩
theorem WrF.ext {wb:Nat} {w w':World} (hx:Ext w w') (hl:wb<w.heap.size) {k:Nat} (h:WrF w' wb k):WrF w wb k:=by
 rcases h with rfl|⟨v,h1,h2⟩
 ·exact .inl rfl
 ·refine .inr ⟨v,?_,h2⟩
  unfold World.cell? at h1 ⊢
  rwa [hx.block wb hl id] at h1
theorem WrMod.of_ext {wb:Nat} {w w':World} (hx:Ext w w') (hl:wb<w.heap.size):WrMod wb w w':=⟨hx.mod,fun k hk _=>hk.ext hx hl⟩
theorem WrIs.lt {w:World} {B wb:Nat} {l:List Bool} {err:Int} (h:WrIs w B wb l err):wb<w.heap.size:=by
 obtain ⟨ao,cap,h1,_⟩:=h
 exact (zbp.1 h1).1
theorem WrIs.ext {w w':World} {B wb:Nat} {l:List Bool} {err:Int} (h:WrIs w B wb l err) (hx:Ext w w'):WrIs w' B wb l err:=by
 obtain ⟨ao,cap,h1,h2,h3⟩:=h
 exact ⟨ao,cap,(hx.block wb (zbp.1 h1).1 id).trans h1,h2,ycs h3 hx⟩
structure WrMid (w:World) (B wb g cap:Nat) (a c:List Bool) (err:Int):Prop where
 blk:w.heap[wb]? =some (.cells #[.bool true,.slice (some ⟨g,0,none⟩) ((yao a).length+1) cap,.int .i64 (c.length:Int),.int .i64 err] 277 (0,0))
 ge:B≤wb
 own:w.ownsRow B 5 1 (.slice (some ⟨g,0,none⟩) ((yao a).length+1) cap) ((yao a).length+1) ((yao a++[yfn c]).map bv)
 whole:a.length % 8=0
 room:c.length<8
theorem WrMid.ext {w w':World} {B wb g cap:Nat} {a c:List Bool} {err:Int} (h:WrMid w B wb g cap a c err) (hx:Ext w w'):WrMid w' B wb g cap a c err:=
 ⟨(hx.block wb (zbp.1 h.blk).1 id).trans h.blk,h.ge,ycs h.own hx,h.whole,h.room⟩
theorem p_wrap64 {n k:Nat} (h:k≤n) (hn:n≤64):IntKind.i64.wrap ((n:Int) - (k:Int))=((n - k:Nat):Int):=by
 rw [show (n:Int) - (k:Int)=((n - k:Nat):Int) by omega]
 rw [IntKind.wrap_i64]
 omega
theorem p_wrap8 (y:Nat):IntKind.u8.wrap (y:Int)=((y:Int) % 256):=IntKind.wrap_u8' _
theorem ynj (k:Nat):IntKind.u8.wrap (2 ^ k)=(2 ^ k:Int) % 256:=IntKind.wrap_u8' _
theorem p_mask {k:Nat} (h0:0<k) (h8:k≤8):IntKind.u8.wrap ((2 ^ k:Int) % 256 - 1)=((2 ^ k - 1:Nat):Int):=by
 rw [IntKind.wrap_u8']
 rcases (show k=1∨k=2∨k=3∨k=4∨k=5∨k=6∨k=7∨k=8 by omega) with rfl|rfl|rfl|rfl|rfl|rfl|rfl|rfl<;>rfl
theorem p_pow8 {k:Nat} (h8:k≤8):2 ^ k≤256:=Nat.pow_le_pow_right (by decide) (show k≤8 from h8)
theorem p_and (y:Nat) {k:Nat} (h8:k≤8):bits .and .u8 ((y:Int) % 256) ((2 ^ k - 1:Nat):Int)=((y:Int) % 2 ^ k):=by
 have h1:=u8_and_nat (y % 256) (2 ^ k - 1) (Nat.mod_lt _ (by decide)) (by have:=p_pow8 h8;have:=Nat.two_pow_pos k;omega)
 rw [Nat.and_two_pow_sub_one_eq_mod,Nat.mod_mod_of_dvd _ (show 2 ^ k∣256 from ⟨2 ^ (8 - k),by rw [← Nat.pow_add,show k+(8 - k)=8 by omega]⟩)] at h1
 rw [show ((y:Int) % 256)=((y % 256:Nat):Int) by simp,h1]
 simp
theorem p_wrapm {m:Nat} (h:m<140737488355328):IntKind.i64.wrap (m:Int)=(m:Int):=by
 rw [IntKind.wrap_i64]
 omega
theorem p_room {q r:Nat} (h:q+r=8∧q≤8):IntKind.i64.wrap (8 - (q:Int))=(r:Int):=by
 rw [IntKind.wrap_i64]
 omega
theorem some_grow {w w1:World} {B wb n cap:Nat} {ao:Option Addr} {e t:TypeId} {xs:List Value} {C:Array Value} {fr:Nat×Nat} {o:Obj} (hb:w.heap[wb]? =some (.cells C t fr)) (hown:w.ownsRow B e 1 (.slice ao n cap) n xs) (he:e≠t)
  (hg:(w.alloc o).grownBy w1 (Value.slice ao n cap).ownBlock):w1.heap[wb]? =some (.cells C t fr)∧Mod (fun k=>(Value.slice ao n cap).ownBlock=some k) w w1:=by
 have hm:Mod (fun k=>(Value.slice ao n cap).ownBlock=some k) w w1:=Mod.trans ((Ext.refl w).alloc o).mod (Mod.grown_row hg) fun i hi _=>hi
 exact ⟨(hm.block wb (zbp.1 hb).1 (yb6 hown hb he)).trans hb,hm⟩
theorem yqx {P:Program} {ops:Array Oper} {rest:List Oper} {o:Oper} {a:Act} {w:World} {Q:Exit→Act→World→Prop} (hgd:o.guard=none) (s x:Operand) (t:TypeId)
  (ho:o.op=.call { callee:=.builtin .append,args:=#[s,x],argTypes:=#[t,t] }) {e:TypeId} {bytes:Nat} (hE:ElemT P t e 1 bytes) {B wb n cap:Nat} {ao:Option Addr} {xs:List Value} {u v0 v2 v3:Value} {tt:TypeId}
  (hown:w.ownsRow B e 1 (.slice ao n cap) n xs) (hB:B≤wb) (hb:w.heap[wb]? =some (.cells #[v0,.slice ao n cap,v2,v3] tt (0,0))) (he:e≠tt) (h1:u.oneCell'=true)
  (hs:a.eval s=.slice ao n cap) (hx:a.eval x=.slice (some ⟨w.heap.size,0,none⟩) 1 1)
  (h63:n+1≤9223372036854775807) (hbytes:(n+1) * bytes≤140737488355328)
  (h:∀ g cap' w',w'.heap[wb]? =some (.cells #[v0,.slice ao n cap,v2,v3] tt (0,0))→w'.ownsRow B e 1 (.slice (some ⟨g,0,none⟩) (n+1) cap') (n+1) (xs++[u])→Mod (fun k=>(Value.slice ao n cap).ownBlock=some k) w w'→((Value.slice ao n cap).ownBlock=some g∨w.heap.size≤g)→
   w'.cell? ⟨wb,1,none⟩=some (.slice ao n cap)→w'.cell? ⟨wb,2,none⟩=some v2→w'.frozen? ⟨wb,1,none⟩=false→w'.frozen? ⟨wb,2,none⟩=false→wpList P ops Q rest (a.put o.dst (.slice (some ⟨g,0,none⟩) (n+1) cap')) w'):
  wpList P ops Q (o::rest) a (w.alloc (.cells #[u] e)):=by
 have hl:=(zbp.1 hb).1
 obtain ⟨i,z,h2,h3,h4,h5,h6,h7,h8⟩:=hE
 have hlit:=yds (w:=w) (B:=w.heap.size) (n:=1) (size:=1) (e:=e) (cs:=#[u]) rfl (zbm _) (by decide)
 refine wpList_append_lies _ hgd s x t ho B e i z 1 bytes h2 h3 h4 h5 h6 h7 h8 _ n xs hs (ycs hown ((Ext.refl w).alloc _)) ⟨w.heap.size,0,none⟩ 1 1 [u] hx rfl (fun j v hj=>World.ownsRow.cells hlit rfl j v hj) (by simpa using h1) (by decide) (by simpa [maxLen] using h63) hbytes (by simp;omega) _ rfl ?_
 intro g cap1 w1 hown1 hgr1 hat _
 obtain ⟨hb1,hm1⟩:=some_grow hb hown he hgr1
 exact h g cap1 w1 hb1 hown1 hm1 (hat.imp id fun e=>by rw [e];simp) (by rw [yac hb1];rfl) (by rw [yac hb1];rfl) (yay hb1 1) (yay hb1 2)
theorem some_open {w:World} {B wb:Nat} {l:List Bool} {err:Int} (h:WrIs w B wb l err):∃ a c,l=a++c∧a.length % 8=0∧c.length=l.length % 8∧c.length<8:=
 ⟨l.take (l.length / 8 * 8),l.drop (l.length / 8 * 8),(List.take_append_drop _ _).symm,by rw [zam,Nat.min_eq_left (by omega)];omega,by rw [zav];omega,by rw [zav];omega⟩
theorem mid_new {w w1:World} {B wb g n cap cap1:Nat} {ao:Option Addr} {a:List Bool} {err used:Int} (hn:n=(yao a).length) (ha:a.length % 8=0) (hge:B≤wb) (hb:w.heap[wb]? =some (.cells #[.bool true,.slice ao n cap,.int .i64 used,.int .i64 err] 277 (0,0)))
  (hb1:w1.heap[wb]? =some (.cells #[.bool true,.slice ao n cap,.int .i64 used,.int .i64 err] 277 (0,0)))
  (hown1:w1.ownsRow B 5 1 (.slice (some ⟨g,0,none⟩) (n+1) cap1) (n+1) ((yao a).map bv++[.int .u8 0])) (hm1:Mod (fun k=>(Value.slice ao n cap).ownBlock=some k) w w1)
  (hat:(Value.slice ao n cap).ownBlock=some g∨w.heap.size≤g):
  WrMid ((w1.setCell ⟨wb,1,none⟩ (.slice (some ⟨g,0,none⟩) (n+1) cap1)).setCell ⟨wb,2,none⟩ (.int .i64 0)) B wb g cap1 a [] err∧
   WrMod wb w ((w1.setCell ⟨wb,1,none⟩ (.slice (some ⟨g,0,none⟩) (n+1) cap1)).setCell ⟨wb,2,none⟩ (.int .i64 0)):=by
 subst hn
 have hblk:((w1.setCell ⟨wb,1,none⟩ (.slice (some ⟨g,0,none⟩) ((yao a).length+1) cap1)).setCell ⟨wb,2,none⟩ (.int .i64 0)).heap[wb]? =some (.cells #[.bool true,.slice (some ⟨g,0,none⟩) ((yao a).length+1) cap1,.int .i64 0,.int .i64 err] 277 (0,0)):=
  ybl (ybl hb1)
 have hne:=yb6 hown1 hb1 (by decide)
 refine ⟨⟨hblk,hge,?_,ha,by decide⟩,?_,?_⟩
 ·have:=ycw (p:=⟨wb,2,none⟩) (u:=.int .i64 0) (ycw (p:=⟨wb,1,none⟩) (u:=.slice (some ⟨g,0,none⟩) ((yao a).length+1) cap1) hown1 hne) hne
  simpa [bv,yfn,yd3,yh3] using this
 ·have hm:Mod (WrF w wb) w w1:=hm1.mono fun k _ hk=>.inr ⟨_,by rw [yac hb];rfl,hk⟩
  exact Mod.setCell (Mod.setCell hm (fun _=>.inl rfl) _) (fun _=>.inl rfl) _
 ·rintro k (rfl|⟨v,h1,h2⟩) hk
  ·exact .inl rfl
  ·rw [yac hblk] at h1
   simp only [List.size_toArray,List.getElem?_toArray,zat,List.getElem?_cons_zero,Option.some.injEq] at h1
   subst h1
   obtain rfl:g=k:=by simpa [Value.ownBlock] using h2
   rcases hat with hat|hat
   ·exact .inr ⟨_,by rw [yac hb];rfl,hat⟩
   ·omega
theorem mid_old {w:World} {B wb cap:Nat} {ao:Option Addr} {a c:List Bool} {err:Int} (hc:c≠[]) (hc8:c.length<8) (ha:a.length % 8=0) (hge:B≤wb)
  (hb:w.heap[wb]? =some (.cells #[.bool true,.slice ao (yao (a++c)).length cap,.int .i64 (yit (a++c):Int),.int .i64 err] 277 (0,0)))
  (hown:w.ownsRow B 5 1 (.slice ao (yao (a++c)).length cap) (yao (a++c)).length ((yao (a++c)).map bv)):
  ∃ g,ao=some ⟨g,0,none⟩∧(yao (a++c)).length=(yao a).length+1∧WrMid w B wb g cap a c err:=by
 have hcl:=List.length_pos_iff.2 hc
 have e:=yfc ha (zbj hc8) hc
 have el:(yao (a++c)).length=(yao a).length+1:=by rw [e];simp
 obtain ⟨g,cap',h1,h2,h3⟩:=World.ownsRow.form hown (by omega)
 simp only [Value.slice.injEq] at h1
 obtain ⟨rfl,_,rfl⟩:=h1
 have hu:yit (a++c)=c.length:=by
  unfold yit
  rw [zae]
  rw [if_neg (by omega)]
  omega
 refine ⟨g,rfl,el,?_⟩
 rw [hu,el] at hb
 rw [el] at hown
 rw [e] at hown
 exact ⟨hb,hge,hown,ha,hc8⟩
structure WrQ (w:World) (B wb g cap:Nat) (a c:List Bool) (q:Nat) (err:Int):Prop where
 blk:w.heap[wb]? =some (.cells #[.bool true,.slice (some ⟨g,0,none⟩) ((yao a).length+1) cap,.int .i64 (q:Int),.int .i64 err] 277 (0,0))
 ge:B≤wb
 own:w.ownsRow B 5 1 (.slice (some ⟨g,0,none⟩) ((yao a).length+1) cap) ((yao a).length+1) ((yao a++[yfn c]).map bv)
 whole:a.length % 8=0
 room:c.length<8
theorem WrQ.c1 {w:World} {B wb g cap:Nat} {a c:List Bool} {q:Nat} {err:Int} (h:WrQ w B wb g cap a c q err):w.cell? ⟨wb,1,none⟩=some (.slice (some ⟨g,0,none⟩) ((yao a).length+1) cap):=by rw [yac h.blk];rfl
theorem WrQ.c2 {w:World} {B wb g cap:Nat} {a c:List Bool} {q:Nat} {err:Int} (h:WrQ w B wb g cap a c q err):w.cell? ⟨wb,2,none⟩=some (.int .i64 (q:Int)):=by rw [yac h.blk];rfl
theorem WrQ.cg {w:World} {B wb g cap:Nat} {a c:List Bool} {q:Nat} {err:Int} (h:WrQ w B wb g cap a c q err):w.cell? ⟨g,(yao a).length,none⟩=some (.int .u8 (yd3 c:Int)):=by
 rw [World.ownsRow.cellAt h.own _ (by omega)]
 simp [bv,yiz (zbj h.room)]
theorem WrQ.fg {w:World} {B wb g cap:Nat} {a c:List Bool} {q:Nat} {err:Int} (h:WrQ w B wb g cap a c q err):w.frozen? ⟨g,(yao a).length,none⟩=false:=World.ownsRow.frozenAt h.own _
theorem WrQ.ext {w w':World} {B wb g cap:Nat} {a c:List Bool} {q:Nat} {err:Int} (h:WrQ w B wb g cap a c q err) (hx:Ext w w'):WrQ w' B wb g cap a c q err:=
 ⟨(hx.block wb (zbp.1 h.blk).1 id).trans h.blk,h.ge,ycs h.own hx,h.whole,h.room⟩
theorem mid_used {w:World} {B wb g cap k:Nat} {a c:List Bool} {err:Int} (h:WrMid w B wb g cap a c err) (hk:k+c.length≤8):
  WrQ (w.setCell ⟨wb,2,none⟩ (.int .i64 ((c.length+k:Nat):Int))) B wb g cap a c (c.length+k) err∧WrMod wb w (w.setCell ⟨wb,2,none⟩ (.int .i64 ((c.length+k:Nat):Int))):=by
 have hblk:=ybl (j:=2) (v:=.int .i64 ((c.length+k:Nat):Int)) h.blk
 refine ⟨⟨hblk,h.ge,ycw h.own (yb6 h.own h.blk (by decide)),h.whole,h.room⟩,Mod.setCell (Mod.refl _ w) (fun _=>.inl rfl) _,?_⟩
 rintro i (rfl|⟨v,h1,h2⟩) hi
 ·exact .inl rfl
 ·refine .inr ⟨v,?_,h2⟩
  rw [yac h.blk]
  rw [yac hblk] at h1
  exact h1
theorem p_all {c:List Bool} {x n k s y bc bd r:Nat} (hk:k+c.length≤8) (hy:y=x / 2 ^ s) (hs:s=n - k) (hkn:k≤n) (hbc:bc=yd3 c) (hr:r=8 - (c.length+k)) (hbd:bd=yd3 (c++(yaf x n).take k)):
  bc ||| (y % 2 ^ k) * 2 ^ r=bd∧bc<256∧(y % 2 ^ k) * 2 ^ r<256:=by
 have hd:((yaf x n).take k).length=k:=by rw [zam,yae];omega
 have hv:y % 2 ^ k=val ((yaf x n).take k):=by rw [ylc x hkn,yh4,hy,hs,Nat.shiftRight_eq_div_pow]
 have h1:=byteN_lor (c:=c) (d:=(yaf x n).take k) (by rw [hd];omega)
 rw [hd,←hv,show 8 - c.length - k=r by omega,←hbc,←hbd] at h1
 refine ⟨h1,by rw [hbc];exact yun (by omega),?_⟩
 have h2:y % 2 ^ k * 2 ^ r<2 ^ k * 2 ^ r:=Nat.mul_lt_mul_of_pos_right (Nat.mod_lt _ (Nat.two_pow_pos _)) (Nat.two_pow_pos _)
 rw [← Nat.pow_add] at h2
 exact zbh h2 (Nat.pow_le_pow_right (j:=8) (n:=2) (by decide) (by omega))
theorem p_shl {y k q r:Nat} (h:y % 2 ^ k * 2 ^ r<256) (hq:q+r=8∧q≤8):IntKind.u8.wrap ((y:Int) % 2 ^ k * 2 ^ min r 8)=(y:Int) % 2 ^ k * 2 ^ r:=by
 rw [IntKind.wrap_u8',Nat.min_eq_left (by omega)]
 have e:(y:Int) % 2 ^ k * 2 ^ r=((y % 2 ^ k * 2 ^ r:Nat):Int):=by push_cast;rfl
 rw [e]
 omega
theorem p_or {y k r bc bd:Nat} (h:bc ||| (y % 2 ^ k) * 2 ^ r=bd∧bc<256∧(y % 2 ^ k) * 2 ^ r<256):bits .or .u8 (bc:Int) ((y:Int) % 2 ^ k * 2 ^ r)=(bd:Int):=by
 have e:(y:Int) % 2 ^ k * 2 ^ r=((y % 2 ^ k * 2 ^ r:Nat):Int):=by push_cast;rfl
 rw [e,u8_or_nat _ _ h.2.1 h.2.2,h.1]
theorem wr_done {w:World} {B wb g cap q:Nat} {a c d:List Bool} {err:Int} (h:WrQ w B wb g cap a c q err) (hq:q=c.length+d.length) (hq8:q≤8) (hd:0<d.length):
  WrIs (w.setCell ⟨g,(yao a).length,none⟩ (.int .u8 (yd3 (c++d):Int))) B wb (a++c++d) err∧WrMod wb w (w.setCell ⟨g,(yao a).length,none⟩ (.int .u8 (yd3 (c++d):Int))):=by
 have hcd:(c++d).length≤8:=by rw [zae];omega
 have hp:yao (a++c++d)=yao a++[yfn (c++d)]:=by
  rw [List.append_assoc]
  exact yfc h.whole hcd (by
   intro e
   have h0:(c++d).length=0:=by rw [e];rfl
   rw [zae] at h0
   omega)
 have hne:g≠wb:=fun e=>by
  have:=yb6 h.own h.blk (by decide)
  exact this (by rw [e];rfl)
 have hblk:(w.setCell ⟨g,(yao a).length,none⟩ (.int .u8 (yd3 (c++d):Int))).heap[wb]? =_:=(Below.heap_setCell _ ⟨g,(yao a).length,none⟩ _ wb (fun e=>hne e.symm)).trans h.blk
 refine ⟨⟨some ⟨g,0,none⟩,cap,?_,h.ge,?_⟩,?_,?_⟩
 ·rw [hblk,hp]
  have hu:yit (a++c++d)=q:=by
   unfold yit
   have:=h.whole
   have:(a++c++d).length=a.length+q:=by simp;omega
   rw [this]
   split<;>omega
  rw [hu]
  simp
 ·have:=(World.ownsRow.stored h.own (yao a).length (.int .u8 (yd3 (c++d):Int))).1
  rw [hp]
  have e:(((yao a++[yfn c]).map bv).set (yao a).length (.int .u8 (yd3 (c++d):Int)))=(yao a++[yfn (c++d)]).map bv:=by
   rw [zba,List.set_append_right _ _ (by simp)]
   simp [bv,yiz hcd]
  rw [e] at this
  simpa using this
 ·exact Mod.setCell (Mod.refl _ w) (fun _=>.inr ⟨_,h.c1,rfl⟩) _
 ·rintro i (rfl|⟨v,h1,h2⟩) hi
  ·exact .inl rfl
  ·refine .inr ⟨v,?_,h2⟩
   rw [yac h.blk]
   rw [yac (hblk.trans (by rfl))] at h1
   exact h1
set_option maxRecDepth 100000 in
set_option maxHeartbeats 4000000 in
theorem some_c (wb B:Nat) (l:List Bool) (err:Int) (x n:Nat) (w:World) (h:WrIs w B wb l err) (hn:0<n) (hn':n≤64) (hl:l.length≤1099511627776):
  Calls Try.prog 199 #[.pointer (some ⟨wb,0,none⟩),.int .u64 x,.int .i64 n] w fun e w'=>e=.returned (.int .i64 ((n - min n (8 - l.length % 8):Nat):Int))∧
   WrIs w' B wb (l++(yaf x n).take (min n (8 - l.length % 8))) err∧WrMod wb w w':=by
 obtain ⟨a,c,hac,ha8,hcl,hc8⟩:=some_open h
 obtain ⟨u,hu⟩:∃ u,u=l.length % 8:=⟨_,rfl⟩
 rw [← hu] at hcl ⊢
 obtain ⟨k,hk⟩:∃ k,k=min n (8 - u):=⟨_,rfl⟩
 rw [← hk]
 have hk0:0<k:=by omega
 have hk8:k+u≤8:=by omega
 have hkn:k≤n:=by omega
 have HK8:Hid (0<k∧k≤8):=Lib.hid (by omega)
 obtain ⟨s,hs⟩:∃ s,s=n - k:=⟨_,rfl⟩
 obtain ⟨y,hy⟩:∃ y,y=x / 2 ^ s:=⟨_,rfl⟩
 have HS:Hid (IntKind.i64.wrap ((n:Int) - (k:Int))=(s:Int)∧(x:Int) / 2 ^ min s 64=(y:Int)):=Lib.hid ⟨by rw [hs];exact p_wrap64 hkn hn',by rw [hy,Nat.min_eq_left (by omega)];push_cast;rfl⟩
 rw [← hs]
 have HKD:=Lib.hid hk
 have HSD:=Lib.hid hs
 have HYD:=Lib.hid hy
 have HAC:=Lib.hid hac
 have HCL:=Lib.hid hcl
 have HA8:=Lib.hid ha8
 have HUD:=Lib.hid hu
 have HL:=Lib.hid hl
 clear hs hy hac hcl ha8 hc8 hl hu
 obtain ⟨ao,cap,hblk,hge,hown⟩:=h
 have HB:=Lib.hid hblk
 have HO:=Lib.hid hown
 have HGE:=Lib.hid hge
 have c1:w.cell? ⟨wb,1,none⟩=some (.slice ao (yao l).length cap):=by rw [yac hblk];rfl
 have f1:=yay hblk 1
 have f2:=yay hblk 2
 have HPL:Hid ((yao l).length+1≤9223372036854775807∧((yao l).length+1) * 1≤140737488355328):=Lib.hid (by have:=yco l;have:=HL.out;omega)
 clear hown hge
 by_cases hu0:u=0
 focus
  have c2:w.cell? ⟨wb,2,none⟩=some (.int .i64 8):=by
   rw [yac hblk]
   have:yit l=8:=by unfold yit;rw [if_pos (by have:=HUD.out;omega)]
   rw [this];rfl
  clear hblk
  go_enter Try.func199,Try.ntmps199
  go_upto_region 4 with (first|(at_builtin;refine yqx rfl (.tmp 18) (.tmp 19) 37 rfl ydp HO.out HGE.out HB.out (by decide) rfl rfl rfl HPL.out.1 HPL.out.2 ?_;intro g cap1 w1 hb1 hown1 hm1 hat k1 k2 f1' f2')|fail)
  have hl0:l=a:=by have:=HAC.out;have h0:c=[]:=zaw (by rw [HCL.out];exact hu0);rw [h0,List.append_nil] at this;exact this
  have hc0:c=[]:=zaw (by rw [HCL.out];exact hu0)
  rw [hl0] at hown1
  obtain ⟨hmid,hwm⟩:=mid_new (a:=a) (by rw [hl0]) HA8.out HGE.out HB.out hb1 (by rw [hl0];exact hown1) hm1 hat
  have HMID:Hid (WrMid _ B wb g cap1 a c err):=Lib.hid (by rw [hc0];exact hmid)
  have HWM:=Lib.hid hwm
  clear hmid hwm hb1 hown1 hm1 hat k1 k2 f1' f2' c1 c2 f1 f2 hl0 hc0
  have HU0:=Lib.hid hu0;clear hu0
  generalize (w1.setCell ⟨wb,1,none⟩ (.slice (some ⟨g,0,none⟩) ((yao l).length+1) cap1)).setCell ⟨wb,2,none⟩ (.int .i64 0)=W2 at HMID HWM ⊢
 rotate_left
 focus
  obtain ⟨g,hg,hpl,hmid⟩:=mid_old (a:=a) (c:=c) (fun h0=>hu0 (by rw [← HCL.out,h0];rfl)) (by rw [HCL.out,HUD.out];omega) HA8.out HGE.out (by rw [← HAC.out];exact HB.out) (by rw [← HAC.out];exact HO.out)
  obtain ⟨cap1,hcap1⟩:∃ cap1,cap1=cap:=⟨_,rfl⟩
  rw [← hcap1] at hmid
  have HMID:=Lib.hid hmid
  have c2:w.cell? ⟨wb,2,none⟩=some (.int .i64 (u:Int)):=by rw [yac hmid.blk,←HCL.out];rfl
  have HWM:Hid (WrMod wb w w):=Lib.hid (WrMod.of_ext (Ext.refl w) (zbp.1 HB.out).1)
  clear hblk hmid
  go_enter Try.func199,Try.ntmps199
  go_upto_region 4 with fail
  clear c1 c2 f1 f2 hpl hg hcap1
  have HU0:=Lib.hid hu0;clear hu0
  obtain ⟨W2,hW2⟩:∃ W2,W2=w:=⟨_,rfl⟩
  have HWM:Hid (WrMod wb w W2):=Lib.hid (by rw [hW2];exact HWM.out)
  rw [← hW2] at HMID ⊢
  clear hW2
 all_goals
  have c2:W2.cell? ⟨wb,2,none⟩=some (.int .i64 (u:Int)):=by rw [yac HMID.out.blk,←HCL.out];rfl
  have f2:=yay HMID.out.blk 2
  go_wp2_with fail
 all_goals
  first
   |(have hk7:(8:Int) - (u:Int)=(k:Int):=by omega
     have HK7:=Lib.hid hk7;clear hk7)
   |(have hk7:(n:Int)=(k:Int):=by omega
     have HK7:=Lib.hid hk7;clear hk7)
  clear hk
  refine ycl 10 _
   [ex (.int .u64 (x:Int)),
    ex (.int .i64 (n:Int)),
    ex (.int .i64 (k:Int)),
    ex (.int .i64 (s:Int)),
    ex (.int .u64 (y:Int)),
    ex (.int .u8 ((y % 256:Nat):Int)),
    ex (.int .i64 (k:Int)),
    ex (.int .u8 ((2 ^ k % 256:Nat):Int)),
    ex (.int .u8 ((2 ^ k - 1:Nat):Int)),
    ex (.int .u8 ((y % 2 ^ k:Nat):Int))]
   (by kernel_rfl) (by kernel_rfl) (by kernel_rfl) rfl ⟨yaq,yaq,yaq,yaq,yaq,yaq,yaq,yaq,yaq,yaq,trivial⟩ ?_ ?_
  ·simp only [List.take_succ_cons,List.take_zero]
   go_tidy
   refine RhOps.mk (RhOp.moveA (by decide) (.free rfl) 1 (fun _ w _=>Ext.refl w) rfl rfl (.int .u64 (x:Int)) rfl (fun _ _ _=>rfl)) ?_
   refine RhOps.mk (RhOp.moveA (by decide) (.free rfl) 2 (fun _ w _=>Ext.refl w) rfl rfl (.int .i64 (n:Int)) rfl (fun _ _ _=>rfl)) ?_
   refine RhOps.mk (RhOp.moveA (by decide) (.free rfl) 7 (fun _ w _=>Ext.refl w) rfl rfl (.int .i64 (k:Int)) (congrArg (Value.int .i64) HK7.out) (fun _ _ _=>rfl)) ?_
   refine RhOps.mk (RhOp.at (by decide) (.free rfl) ?_) ?_
   rotate_left
   refine RhOps.mk (RhOp.at (by decide) (.free rfl) ?_) ?_
   rotate_left
   refine RhOps.mk (RhOp.at (by decide) (.free rfl) ?_) ?_
   rotate_left
   refine RhOps.mk (RhOp.moveA (by decide) (.free rfl) 7 (fun _ w _=>Ext.refl w) rfl rfl (.int .i64 (k:Int)) (congrArg (Value.int .i64) HK7.out) (fun _ _ _=>rfl)) ?_
   refine RhOps.mk (RhOp.at (by decide) (.free rfl) ?_) ?_
   rotate_left
   refine RhOps.mk (RhOp.at (by decide) (.free rfl) ?_) ?_
   rotate_left
   refine RhOps.mk (RhOp.at (by decide) (.free rfl) ?_) ?_
   rotate_left
   exact RhOps.done
   ·intro b vals ρ w' hC hd hS
    have r34:ρ (.tmp 34)=.int .i64 (n:Int):=(hS.tmp 34).trans (hd.at 1 rfl)
    have r35:ρ (.tmp 35)=.int .i64 (k:Int):=(hS.tmp 35).trans (hd.at 2 rfl)
    refine (show yap _ _ _ _ (fun v w''=>Ext w' w''∧v=.int .i64 (s:Int)) from ?_)
    clear hC hd hS
    go_simp
    exact ⟨Ext.refl _,HS.out.1⟩
   ·intro b vals ρ w' hC hd hS
    have r33:ρ (.tmp 33)=.int .u64 (x:Int):=(hS.tmp 33).trans (hd.at 0 rfl)
    have r36:ρ (.tmp 36)=.int .i64 (s:Int):=(hS.tmp 36).trans (hd.at 3 rfl)
    refine (show yap _ _ _ _ (fun v w''=>Ext w' w''∧v=.int .u64 (y:Int)) from ?_)
    clear hC hd hS
    go_simp
    exact ⟨Ext.refl _,HS.out.2⟩
   ·intro b vals ρ w' hC hd hS
    have r37:ρ (.tmp 37)=.int .u64 (y:Int):=(hS.tmp 37).trans (hd.at 4 rfl)
    refine (show yap _ _ _ _ (fun v w''=>Ext w' w''∧v=.int .u8 ((y % 256:Nat):Int)) from ?_)
    clear hC hd hS
    go_simp
    exact ⟨Ext.refl _,p_wrap8 y⟩
   ·intro b vals ρ w' hC hd hS
    have r39:ρ (.tmp 39)=.int .i64 (k:Int):=(hS.tmp 39).trans (hd.at 6 rfl)
    have rc:=hS.const
    refine (show yap _ _ _ _ (fun v w''=>Ext w' w''∧v=.int .u8 ((2 ^ k % 256:Nat):Int)) from ?_)
    clear hC hd hS
    go_simp
    exact ⟨Ext.refl _,ynj k⟩
   ·intro b vals ρ w' hC hd hS
    have r40:ρ (.tmp 40)=.int .u8 ((2 ^ k % 256:Nat):Int):=(hS.tmp 40).trans (hd.at 7 rfl)
    have rc:=hS.const
    refine (show yap _ _ _ _ (fun v w''=>Ext w' w''∧v=.int .u8 ((2 ^ k - 1:Nat):Int)) from ?_)
    clear hC hd hS
    go_simp
    exact ⟨Ext.refl _,p_mask HK8.out.1 HK8.out.2⟩
   ·intro b vals ρ w' hC hd hS
    have r38:ρ (.tmp 38)=.int .u8 ((y % 256:Nat):Int):=(hS.tmp 38).trans (hd.at 5 rfl)
    have r41:ρ (.tmp 41)=.int .u8 ((2 ^ k - 1:Nat):Int):=(hS.tmp 41).trans (hd.at 8 rfl)
    refine (show yap _ _ _ _ (fun v w''=>Ext w' w''∧v=.int .u8 ((y % 2 ^ k:Nat):Int)) from ?_)
    clear hC hd hS
    go_simp
    exact ⟨Ext.refl _,p_and y HK8.out.2⟩
  ·intro vals w' hC hV
   have e9:=hV 9 (by decide)
   simp only [vlist,ex,List.getD_cons_zero,List.getD_cons_succ] at e9
   have HC':=Lib.hid hC;clear hC hV
   simp only [List.drop_succ_cons,List.drop_zero]
   clear c2 f2
   have hm:=HMID.out.ext HC'.out
   have HWM':=Lib.hid (HWM.out.trans (WrMod.of_ext HC'.out (zbp.1 HMID.out.blk).1))
   have c2:w'.cell? ⟨wb,2,none⟩=some (.int .i64 (u:Int)):=by rw [yac hm.blk,←HCL.out];rfl
   have f2:=yay hm.blk 2
   have HM:=Lib.hid hm;clear hm
   go_upto_region 7 with fail
   clear c2 f2
   first
    |rw [show (u:Int)+(8 - (u:Int))=((u+k:Nat):Int) by have:=HK7.out;omega]
    |rw [show (u:Int)+(n:Int)=((u+k:Nat):Int) by have:=HK7.out;omega]
   obtain ⟨hq1,hq2⟩:=mid_used (k:=k) HM.out (by rw [HCL.out];exact hk8)
   rw [HCL.out] at hq1 hq2
   have HWQ:=Lib.hid (HWM'.out.trans hq2)
   generalize w'.setCell ⟨wb,2,none⟩ (.int .i64 ((u+k:Nat):Int))=W7 at hq1 HWQ ⊢
   have HQI:=Lib.hid hq1
   clear hq1 hq2 HWM' HC'
   obtain ⟨q,hq⟩:∃ q,q=u+k:=⟨_,rfl⟩
   obtain ⟨r,hr⟩:∃ r,r=8 - q:=⟨_,rfl⟩
   obtain ⟨m,hm⟩:∃ m,m=(yao a).length:=⟨_,rfl⟩
   obtain ⟨bc,hbc⟩:∃ bc,bc=yd3 c:=⟨_,rfl⟩
   obtain ⟨bd,hbd⟩:∃ bd,bd=yd3 (c++(yaf x n).take k):=⟨_,rfl⟩
   have c1:=HQI.out.c1
   have c2:=HQI.out.c2
   have cg:=HQI.out.cg
   have fg:=HQI.out.fg
   rw [← hm] at c1 cg fg
   rw [← hbc] at cg
   rw [← hq] at c2
   have HQ:Hid (q+r=8∧q≤8):=Lib.hid (by omega)
   have HMC:Hid (m<140737488355328):=Lib.hid (by have:=yco a;have:=HL.out;have:=congrArg List.length HAC.out;rw [zae] at this;omega)
   have HOR:Hid (bc ||| (y % 2 ^ k) * 2 ^ r=bd∧bc<256∧(y % 2 ^ k) * 2 ^ r<256):=Lib.hid (p_all (by rw [HCL.out];omega) HYD.out HSD.out hkn hbc (by rw [hr,hq,HCL.out]) hbd)
   have HM0:=Lib.hid hm
   have HBC:=Lib.hid hbc
   have HBD:=Lib.hid hbd
   have HQD:=Lib.hid hq
   clear hm hbc hbd hq hr fg
   refine ycl 20 _
    [ex (.pointer (some ⟨wb,0,none⟩)),
     ex (.pointer (some ⟨wb,0,none⟩)),
     ex (.pointer (some ⟨wb,1,none⟩)),
     ex (.slice (some ⟨g,0,none⟩) (m+1) cap1),
     ex (.pointer (some ⟨wb,0,none⟩)),
     ex (.pointer (some ⟨wb,0,none⟩)),
     ex (.pointer (some ⟨wb,1,none⟩)),
     ex (.slice (some ⟨g,0,none⟩) (m+1) cap1),
     ex (.int .i64 ((m+1:Nat):Int)),
     ex (.int .i64 (m:Int)),
     ex (.pointer (some ⟨g,m,none⟩)),
     ex (.int .u8 (bc:Int)),
     ex (.int .u8 ((y % 2 ^ k:Nat):Int)),
     ex (.pointer (some ⟨wb,0,none⟩)),
     ex (.pointer (some ⟨wb,0,none⟩)),
     ex (.pointer (some ⟨wb,2,none⟩)),
     ex (.int .i64 (q:Int)),
     ex (.int .i64 (r:Int)),
     ex (.int .u8 ((y % 2 ^ k * 2 ^ r:Nat):Int)),
     ex (.int .u8 (bd:Int))]
    (by kernel_rfl) (by kernel_rfl) (by kernel_rfl) rfl ⟨yaq,yaq,yaq,yaq,yaq,yaq,yaq,yaq,yaq,yaq,yaq,yaq,yaq,yaq,yaq,yaq,yaq,yaq,yaq,yaq,trivial⟩ ?_ ?_
   ·simp only [List.take_succ_cons,List.take_zero]
    go_tidy
    refine RhOps.mk (RhOp.moveA (by decide) (.free rfl) 0 (fun _ w _=>Ext.refl w) rfl rfl (.pointer (some ⟨wb,0,none⟩)) rfl (fun _ _ _=>rfl)) ?_
    refine RhOps.mk (RhOp.at (by decide) (.free rfl) ?_) ?_
    rotate_left
    refine RhOps.mk (RhOp.at (by decide) (.free rfl) ?_) ?_
    rotate_left
    refine RhOps.mk (RhOp.at (by decide) (.free rfl) ?_) ?_
    rotate_left
    refine RhOps.mk (RhOp.moveA (by decide) (.free rfl) 0 (fun _ w _=>Ext.refl w) rfl rfl (.pointer (some ⟨wb,0,none⟩)) rfl (fun _ _ _=>rfl)) ?_
    refine RhOps.mk (RhOp.at (by decide) (.free rfl) ?_) ?_
    rotate_left
    refine RhOps.mk (RhOp.at (by decide) (.free rfl) ?_) ?_
    rotate_left
    refine RhOps.mk (RhOp.at (by decide) (.free rfl) ?_) ?_
    rotate_left
    refine RhOps.mk (RhOp.at (by decide) (.free rfl) ?_) ?_
    rotate_left
    refine RhOps.mk (RhOp.at (by decide) (.free rfl) ?_) ?_
    rotate_left
    refine RhOps.mk (RhOp.at (by decide) (.free rfl) ?_) ?_
    rotate_left
    refine RhOps.mk (RhOp.at (by decide) (.free rfl) ?_) ?_
    rotate_left
    refine RhOps.mk (RhOp.moveA (by decide) (.free rfl) 8 (fun _ w _=>Ext.refl w) rfl rfl (.int .u8 ((y % 2 ^ k:Nat):Int)) rfl (fun _ _ _=>rfl)) ?_
    refine RhOps.mk (RhOp.moveA (by decide) (.free rfl) 0 (fun _ w _=>Ext.refl w) rfl rfl (.pointer (some ⟨wb,0,none⟩)) rfl (fun _ _ _=>rfl)) ?_
    refine RhOps.mk (RhOp.at (by decide) (.free rfl) ?_) ?_
    rotate_left
    refine RhOps.mk (RhOp.at (by decide) (.free rfl) ?_) ?_
    rotate_left
    refine RhOps.mk (RhOp.at (by decide) (.free rfl) ?_) ?_
    rotate_left
    refine RhOps.mk (RhOp.at (by decide) (.free rfl) ?_) ?_
    rotate_left
    refine RhOps.mk (RhOp.at (by decide) (.free rfl) ?_) ?_
    rotate_left
    refine RhOps.mk (RhOp.at (by decide) (.free rfl) ?_) ?_
    rotate_left
    exact RhOps.done
    ·intro b vals ρ w' hC hd hS
     have r51:ρ (.tmp 51)=.pointer (some ⟨wb,0,none⟩):=(hS.tmp 51).trans (hd.at 0 rfl)
     refine (show yap _ _ _ _ (fun v w''=>Ext w' w''∧v=.pointer (some ⟨wb,0,none⟩)) from ?_)
     clear hC hd hS
     go_simp
     exact Ext.refl _
    ·intro b vals ρ w' hC hd hS
     have r52:ρ (.tmp 52)=.pointer (some ⟨wb,0,none⟩):=(hS.tmp 52).trans (hd.at 1 rfl)
     refine (show yap _ _ _ _ (fun v w''=>Ext w' w''∧v=.pointer (some ⟨wb,1,none⟩)) from ?_)
     clear hC hd hS
     go_simp
     exact Ext.refl _
    ·intro b vals ρ w' hC hd hS
     have r53:ρ (.tmp 53)=.pointer (some ⟨wb,1,none⟩):=(hS.tmp 53).trans (hd.at 2 rfl)
     have qc:=hC.cell c1
     refine (show yap _ _ _ _ (fun v w''=>Ext w' w''∧v=.slice (some ⟨g,0,none⟩) (m+1) cap1) from ?_)
     clear hC hd hS
     go_simp
     exact Ext.refl _
    ·intro b vals ρ w' hC hd hS
     have r55:ρ (.tmp 55)=.pointer (some ⟨wb,0,none⟩):=(hS.tmp 55).trans (hd.at 4 rfl)
     refine (show yap _ _ _ _ (fun v w''=>Ext w' w''∧v=.pointer (some ⟨wb,0,none⟩)) from ?_)
     clear hC hd hS
     go_simp
     exact Ext.refl _
    ·intro b vals ρ w' hC hd hS
     have r56:ρ (.tmp 56)=.pointer (some ⟨wb,0,none⟩):=(hS.tmp 56).trans (hd.at 5 rfl)
     refine (show yap _ _ _ _ (fun v w''=>Ext w' w''∧v=.pointer (some ⟨wb,1,none⟩)) from ?_)
     clear hC hd hS
     go_simp
     exact Ext.refl _
    ·intro b vals ρ w' hC hd hS
     have r57:ρ (.tmp 57)=.pointer (some ⟨wb,1,none⟩):=(hS.tmp 57).trans (hd.at 6 rfl)
     have qc:=hC.cell c1
     refine (show yap _ _ _ _ (fun v w''=>Ext w' w''∧v=.slice (some ⟨g,0,none⟩) (m+1) cap1) from ?_)
     clear hC hd hS
     go_simp
     exact Ext.refl _
    ·intro b vals ρ w' hC hd hS
     have r58:ρ (.tmp 58)=.slice (some ⟨g,0,none⟩) (m+1) cap1:=(hS.tmp 58).trans (hd.at 7 rfl)
     refine (show yap _ _ _ _ (fun v w''=>Ext w' w''∧v=.int .i64 ((m+1:Nat):Int)) from ?_)
     clear hC hd hS
     go_simp
     exact Ext.refl _
    ·intro b vals ρ w' hC hd hS
     have r59:ρ (.tmp 59)=.int .i64 ((m+1:Nat):Int):=(hS.tmp 59).trans (hd.at 8 rfl)
     have rc:=hS.const
     refine (show yap _ _ _ _ (fun v w''=>Ext w' w''∧v=.int .i64 (m:Int)) from ?_)
     clear hC hd hS
     go_simp
     exact ⟨Ext.refl _,p_wrapm HMC.out⟩
    ·intro b vals ρ w' hC hd hS
     have r54:ρ (.tmp 54)=.slice (some ⟨g,0,none⟩) (m+1) cap1:=(hS.tmp 54).trans (hd.at 3 rfl)
     have r60:ρ (.tmp 60)=.int .i64 (m:Int):=(hS.tmp 60).trans (hd.at 9 rfl)
     refine (show yap _ _ _ _ (fun v w''=>Ext w' w''∧v=.pointer (some ⟨g,m,none⟩)) from ?_)
     have hml:(m:Int)<(m:Int)+1:=by omega
     clear hC hd hS
     go_simp
     exact Ext.refl _
    ·intro b vals ρ w' hC hd hS
     have r61:ρ (.tmp 61)=.pointer (some ⟨g,m,none⟩):=(hS.tmp 61).trans (hd.at 10 rfl)
     have qc:=hC.cell cg
     refine (show yap _ _ _ _ (fun v w''=>Ext w' w''∧v=.int .u8 (bc:Int)) from ?_)
     clear hC hd hS
     go_simp
     exact Ext.refl _
    ·intro b vals ρ w' hC hd hS
     have r64:ρ (.tmp 64)=.pointer (some ⟨wb,0,none⟩):=(hS.tmp 64).trans (hd.at 13 rfl)
     refine (show yap _ _ _ _ (fun v w''=>Ext w' w''∧v=.pointer (some ⟨wb,0,none⟩)) from ?_)
     clear hC hd hS
     go_simp
     exact Ext.refl _
    ·intro b vals ρ w' hC hd hS
     have r65:ρ (.tmp 65)=.pointer (some ⟨wb,0,none⟩):=(hS.tmp 65).trans (hd.at 14 rfl)
     refine (show yap _ _ _ _ (fun v w''=>Ext w' w''∧v=.pointer (some ⟨wb,2,none⟩)) from ?_)
     clear hC hd hS
     go_simp
     exact Ext.refl _
    ·intro b vals ρ w' hC hd hS
     have r66:ρ (.tmp 66)=.pointer (some ⟨wb,2,none⟩):=(hS.tmp 66).trans (hd.at 15 rfl)
     have qc:=hC.cell c2
     refine (show yap _ _ _ _ (fun v w''=>Ext w' w''∧v=.int .i64 (q:Int)) from ?_)
     clear hC hd hS
     go_simp
     exact Ext.refl _
    ·intro b vals ρ w' hC hd hS
     have r67:ρ (.tmp 67)=.int .i64 (q:Int):=(hS.tmp 67).trans (hd.at 16 rfl)
     have rc:=hS.const
     refine (show yap _ _ _ _ (fun v w''=>Ext w' w''∧v=.int .i64 (r:Int)) from ?_)
     clear hC hd hS
     go_simp
     exact ⟨Ext.refl _,p_room HQ.out⟩
    ·intro b vals ρ w' hC hd hS
     have r63:ρ (.tmp 63)=.int .u8 ((y % 2 ^ k:Nat):Int):=(hS.tmp 63).trans (hd.at 12 rfl)
     have r68:ρ (.tmp 68)=.int .i64 (r:Int):=(hS.tmp 68).trans (hd.at 17 rfl)
     refine (show yap _ _ _ _ (fun v w''=>Ext w' w''∧v=.int .u8 ((y % 2 ^ k * 2 ^ r:Nat):Int)) from ?_)
     clear hC hd hS
     go_simp
     exact ⟨Ext.refl _,p_shl HOR.out.2.2 HQ.out⟩
    ·intro b vals ρ w' hC hd hS
     have r62:ρ (.tmp 62)=.int .u8 (bc:Int):=(hS.tmp 62).trans (hd.at 11 rfl)
     have r69:ρ (.tmp 69)=.int .u8 ((y % 2 ^ k * 2 ^ r:Nat):Int):=(hS.tmp 69).trans (hd.at 18 rfl)
     refine (show yap _ _ _ _ (fun v w''=>Ext w' w''∧v=.int .u8 (bd:Int)) from ?_)
     clear hC hd hS
     go_simp
     exact ⟨Ext.refl _,p_or HOR.out⟩
   ·intro vals w' hC hV
    have e3:=hV 3 (by decide)
    have e9:=hV 9 (by decide)
    have e10:=hV 10 (by decide)
    have e19:=hV 19 (by decide)
    simp only [vlist,ex,List.getD_cons_zero,List.getD_cons_succ] at e3 e9 e10 e19
    have HC':=Lib.hid hC;clear hC hV
    simp only [List.drop_succ_cons,List.drop_zero]
    have hq7:=HQI.out.ext HC'.out
    have HWZ:=Lib.hid (HWQ.out.trans (WrMod.of_ext HC'.out (zbp.1 HQI.out.blk).1))
    clear c1 c2 cg
    have cg:w'.cell? ⟨g,m,none⟩=some (.int .u8 (bc:Int)):=by rw [HBC.out,HM0.out];exact hq7.cg
    have fg:w'.frozen? ⟨g,m,none⟩=false:=by rw [HM0.out];exact hq7.fg
    have HQ7:=Lib.hid hq7
    have hml:(m:Int)<(m:Int)+1:=by omega
    clear hq7
    go_wp2_with fail
    go_ret
    have hd:((yaf x n).take k).length=k:=by rw [zam,yae];omega
    have hfin:=wr_done (d:=(yaf x n).take k) HQ7.out (by rw [hd,HCL.out]) (by omega) (by rw [hd];exact hk0)
    rw [← HAC.out,←HBD.out,←HM0.out] at hfin
    refine ⟨?_,hfin.1,HWZ.out.trans hfin.2⟩
    have:=HK7.out
    have:=HSD.out
    refine congrArg (fun z:Int=>Ending.returned (Value.int .i64 z)) ?_
    omega
set_option maxHeartbeats 1000000 in
theorem wnew_c (B:Nat) (w:World) (hB:B≤w.heap.size):
  Calls Try.prog 118 #[] w fun e w'=>∃ wb,e=.returned (.pointer (some ⟨wb,0,none⟩))∧w.heap.size≤wb∧Ext w w'∧WrIs w' B wb [] 0:=by
 go_enter Try.func118,Try.ntmps118
 go_wp2
 go_ret
 refine ⟨_,rfl,zbm _,(Ext.refl w).alloc _,none,0,?_,hB,World.ownsRow_nil _ _ _ _⟩
 exact heap_alloc_new w _
theorem WrIs.c0 {w:World} {B wb:Nat} {l:List Bool} {err:Int} (h:WrIs w B wb l err):w.cell? ⟨wb,0,none⟩=some (.bool true):=by
 obtain ⟨ao,cap,h1,_⟩:=h
 rw [yac h1];rfl
theorem WrIs.c3 {w:World} {B wb:Nat} {l:List Bool} {err:Int} (h:WrIs w B wb l err):w.cell? ⟨wb,3,none⟩=some (.int .i64 err):=by
 obtain ⟨ao,cap,h1,_⟩:=h
 rw [yac h1];rfl
theorem WrIs.f3 {w:World} {B wb:Nat} {l:List Bool} {err:Int} (h:WrIs w B wb l err):w.frozen? ⟨wb,3,none⟩=false:=by
 obtain ⟨ao,cap,h1,_⟩:=h
 exact yay h1 3
theorem WrIs.err {w:World} {B wb:Nat} {l:List Bool} {err:Int} (h:WrIs w B wb l err) (e:Int):
  WrIs (w.setCell ⟨wb,3,none⟩ (.int .i64 e)) B wb l e∧WrMod wb w (w.setCell ⟨wb,3,none⟩ (.int .i64 e)):=by
 obtain ⟨ao,cap,h1,h2,h3⟩:=h
 have hblk:=ybl (j:=3) (v:=.int .i64 e) h1
 refine ⟨⟨ao,cap,hblk,h2,ycw h3 (yb6 h3 h1 (by decide))⟩,Mod.setCell (Mod.refl _ w) (fun _=>.inl rfl) _,?_⟩
 rintro i (rfl|⟨v,q1,q2⟩) hi
 ·exact .inl rfl
 ·refine .inr ⟨v,?_,q2⟩
  rw [yac h1]
  rw [yac hblk] at q1
  exact q1
def keepE (err e:Int):Int:=if err=0 then e else err
theorem keepE_ne {err:Int} (h:err≠0) (e:Int):keepE err e=err:=if_neg h
set_option maxHeartbeats 1000000 in
theorem yqy (wb B:Nat) (l:List Bool) (err e:Int) (w:World) (h:WrIs w B wb l err):
  Calls Try.prog 198 #[.pointer (some ⟨wb,0,none⟩),.int .i64 e] w fun r w'=>r=.returned (.pointer (some ⟨wb,0,none⟩))∧WrIs w' B wb l (keepE err e)∧WrMod wb w w':=by
 have c3:=h.c3
 have f3:=h.f3
 have H:=Lib.hid h;clear h
 by_cases h0:err=0
 ·subst h0
  go_enter Try.func198,Try.ntmps198
  go_wp2
  go_ret
  exact ⟨rfl,(H.out.err e).1,(H.out.err e).2⟩
 ·have hb:(err==0)=false:=by simpa using h0
  have H0:=Lib.hid h0;clear h0
  go_enter Try.func198,Try.ntmps198
  go_wp2
  go_ret
  exact ⟨rfl,by rw [keepE_ne H0.out];exact H.out,WrMod.of_ext (Ext.refl w) H.out.lt⟩
def yp8 (x:Nat) (n:Int):Prop:=0≤n∧n≤64∧x<2 ^ n.toNat
instance (x:Nat) (n:Int):Decidable (yp8 x n):=by unfold yp8;infer_instance
set_option maxHeartbeats 1000000 in
theorem yrw (wb B:Nat) (l:List Bool) (err:Int) (x:Nat) (n:Int) (w:World) (h:WrIs w B wb l err) (h0:err≠0):
  Calls Try.prog 119 #[.pointer (some ⟨wb,0,none⟩),.int .u64 x,.int .i64 n] w fun r w'=>r=.returned (.pointer (some ⟨wb,0,none⟩))∧w=w':=by
 have c0:=h.c0
 have c3:=h.c3
 have hb:(err != 0)=true:=by simpa using h0
 clear h0 h
 go_enter Try.func119,Try.ntmps119
 go_wp2
 go_ret
 exact ⟨rfl,rfl⟩
set_option maxHeartbeats 2000000 in
theorem put_bad (wb B:Nat) (l:List Bool) (x:Nat) (n:Int) (w:World) (h:WrIs w B wb l 0) (hx:x<18446744073709551616) (hf:¬ yp8 x n) (hi:-9223372036854775808≤n∧n≤9223372036854775807):
  Calls Try.prog 119 #[.pointer (some ⟨wb,0,none⟩),.int .u64 x,.int .i64 n] w fun r w'=>r=.returned (.pointer (some ⟨wb,0,none⟩))∧WrIs w' B wb l 2∧WrMod wb w w':=by
 have c0:=h.c0
 have c3:=h.c3
 have H:=Lib.hid h;clear h
 have HF:=Lib.hid hf
 have HX:=Lib.hid hx
 rcases (show n<0∨64<n∨(0≤n∧n<64∧¬ x<2 ^ n.toNat) by
  unfold yp8 at hf
  by_cases h1:n<0
  ·exact .inl h1
  ·by_cases h2:64<n
   ·exact .inr (.inl h2)
   ·refine .inr (.inr ⟨by omega,?_,fun h3=>hf ⟨by omega,by omega,h3⟩⟩)
    by_cases h4:n=64
    ·subst h4;exact absurd ⟨by decide,by decide,hx⟩ hf
    ·omega) with h1|h1|⟨h1,h2,h3⟩
 ·clear hf hx
  go_enter Try.func119,Try.ntmps119
  go_wp2_with fail
  refine (yqy wb B l 0 2 w H.out).mono ?_
  rintro e w1 ⟨rfl,h4,h5⟩
  go_wp2
  go_ret
  exact ⟨rfl,h4,h5⟩
 ·clear hf hx
  go_enter Try.func119,Try.ntmps119
  go_wp2_with fail
  refine (yqy wb B l 0 2 w H.out).mono ?_
  rintro e w1 ⟨rfl,h4,h5⟩
  go_wp2
  go_ret
  exact ⟨rfl,h4,h5⟩
 ·obtain ⟨m,rfl⟩:=Int.eq_ofNat_of_zero_le h1
  have hz:((x:Int) / 2 ^ m != 0)=true:=by
   rw [bne_iff_ne]
   rw [Int.toNat_natCast] at h3
   have:0<x / 2 ^ m:=Nat.div_pos (by omega) (Nat.two_pow_pos _)
   intro h
   have h':((x / 2 ^ m:Nat):Int)=0:=by push_cast;exact h
   omega
  clear hf hx h3
  go_enter Try.func119,Try.ntmps119
  go_wp2_with fail
  refine (yqy wb B l 0 2 w H.out).mono ?_
  rintro e w1 ⟨rfl,h4,h5⟩
  go_wp2
  go_ret
  exact ⟨rfl,h4,h5⟩
set_option maxHeartbeats 2000000 in
theorem put_ok (wb B:Nat) (l:List Bool) (x n:Nat) (w:World) (h:WrIs w B wb l 0) (hn:n≤64) (hx:x<2 ^ n) (hl:l.length+n≤1099511627776):
  Calls Try.prog 119 #[.pointer (some ⟨wb,0,none⟩),.int .u64 x,.int .i64 n] w fun r w'=>r=.returned (.pointer (some ⟨wb,0,none⟩))∧WrIs w' B wb (l++yaf x n) 0∧WrMod wb w w':=by
 have c0:=h.c0
 have c3:=h.c3
 have H:=Lib.hid h;clear h
 have HL:=Lib.hid hl;clear hl
 have hz:(x:Int) / 2 ^ n=0:=by
  have:x / 2 ^ n=0:=Nat.div_eq_of_lt hx
  have h':((x / 2 ^ n:Nat):Int)=0:=by rw [this];rfl
  simpa using h'
 clear hx
 have hnn:(n:Int)<64∨¬ (n:Int)<64:=by omega
 rcases hnn with hnn|hnn
 all_goals
  go_enter Try.func119,Try.ntmps119
  go_wp2_with fail
  go_loopw [2] (fun i wr=>∃ m:Nat,m≤n∧i=.int .i64 m∧WrIs wr B wb (l++(yaf x n).take (n - m)) 0∧WrMod wb w wr) (fun i _=>(intOf i).toNat)
  case atStart=>exact ⟨n,zbm _,rfl,by rw [Nat.sub_self,List.take_zero,List.append_nil];exact H.out,WrMod.of_ext (Ext.refl w) H.out.lt⟩
  case round=>
   obtain ⟨m,hm,rfl,hw,hwm⟩:=hrel
   have HW:=Lib.hid hw
   have HM:=Lib.hid hwm
   clear hw hwm
   by_cases h0:m=0
   ·subst h0
    go_wp2_with fail
    go_ret
    exact ⟨rfl,by have:=HW.out;rwa [Nat.sub_zero,zaq (by rw [yae];exact zbm _)] at this,HM.out⟩
   ·have hpos:0<m:=by omega
    go_wp2_with fail
    have hs:=some_c wb B _ 0 x m _ HW.out hpos (by omega) (by have:=HL.out;rw [zae,zam,yae];omega)
    have hr8:0<8 - (l++(yaf x n).take (n - m)).length % 8:=by omega
    generalize (8 - (l++(yaf x n).take (n - m)).length % 8)=r at hs hr8
    refine hs.mono ?_
    clear hs
    rintro e w1 ⟨rfl,h4,h5⟩
    have H4:=Lib.hid h4
    have H5:=Lib.hid h5
    clear h4 h5
    go_wp2_with fail
    go_roundw
    case rel=>
     refine ⟨_,?_,rfl,?_,HM.out.trans H5.out⟩
     ·omega
     ·have:=H4.out
      rw [List.append_assoc,show yaf x m=(yaf x n).drop (n - m) by rw [yld _ (by omega),show n - (n - m)=m by omega],←List.take_add] at this
      rwa [show n - (m - min m r)=n - m+min m r by omega]
    case measure=>
     simp only [intOf]
     omega
set_option maxHeartbeats 1000000 in
theorem done_err (wb B:Nat) (l:List Bool) (err:Int) (w:World) (h:WrIs w B wb l err) (h0:err≠0):
  Calls Try.prog 121 #[.pointer (some ⟨wb,0,none⟩)] w fun r w'=>r=.returned (.tuple #[.slice none 0 0,.int .i64 err])∧∃ n,w'=w.drewN n:=by
 have c0:=h.c0
 have c3:=h.c3
 have hb:(err != 0)=true:=by simpa using h0
 clear h0 h
 go_enter Try.func121,Try.ntmps121
 go_wp2_with fail
 go_quiet (fail)
 go_wp2
 refine bodyPost_ret (v:=.tuple #[.slice none 0 0,.int .i64 err]) (by simp [results,Try.results121,go_sem]) rfl ⟨rfl,_,rfl⟩
set_option maxHeartbeats 1000000 in
theorem done_ok (wb B:Nat) (l:List Bool) (w:World) (h:WrIs w B wb l 0) (hl:l.length≤1099511627776):
  Calls Try.prog 121 #[.pointer (some ⟨wb,0,none⟩)] w fun r w'=>∃ ao cap,r=.returned (.tuple #[.slice ao (yao l).length cap,.int .i64 0])∧Ext w w'∧w'.ownsRow w.heap.size 5 1 (.slice ao (yao l).length cap) (yao l).length ((yao l).map bv):=by
 have c0:=h.c0
 have c3:=h.c3
 obtain ⟨ao,cap,h1,h2,h3⟩:=h
 have c1:w.cell? ⟨wb,1,none⟩=some (.slice ao (yao l).length cap):=by rw [yac h1];rfl
 have H3:=Lib.hid h3
 have HL:=Lib.hid hl
 clear h1 h2 h3 hl
 go_enter Try.func121,Try.ntmps121
 go_wp2_with fail
 refine (clone_c _ (yao l) w (Rs.of_owns H3.out) (by have:=yco l;have:=HL.out;omega)).mono ?_
 rintro e w1 ⟨ao',cap',rfl,hx,hown⟩
 have HX:=Lib.hid hx
 have HO:=Lib.hid hown
 clear hx hown
 go_wp2
 refine bodyPost_ret (v:=.tuple #[.slice ao' (yao l).length cap',.int .i64 0]) (by simp [results,Try.results121,go_sem]) rfl ⟨_,_,rfl,HX.out,HO.out⟩
def ya2 (s:List UInt8):List Bool:=yaf s.length 16++ya4 s
theorem ye2 (l:List UInt8) (k:Nat) (h:k<l.length):ya4 (l.take (k+1))=ya4 (l.take k)++yaf (l.getD k 0).toNat 8:=by
 rw [List.take_succ_eq_append_getElem h,yei]
 congr 1
 simp [ya4,List.getD,zaa h]
set_option maxRecDepth 100000 in
set_option maxHeartbeats 4000000 in
theorem wtext_ok (wb B:Nat) (l:List Bool) (s:ByteArray) (w:World) (h:WrIs w B wb l 0) (hs:s.size<65536) (hl:l.length≤549755813888):
  Calls Try.prog 201 #[.pointer (some ⟨wb,0,none⟩),.string s] w fun r w'=>r=.returned (.pointer (some ⟨wb,0,none⟩))∧WrIs w' B wb (l++ya2 s.data.toList) 0∧WrMod wb w w':=by
 have c0:=h.c0
 have H:=Lib.hid h;clear h
 have HL:=Lib.hid hl;clear hl
 obtain ⟨n,hn⟩:∃ n,n=s.size:=⟨_,rfl⟩
 have hn2:n<65536:=by omega
 have HN:=Lib.hid hn
 have HNL:Hid (n=s.data.toList.length):=Lib.hid hn
 have hsi:¬ (65536:Int)≤(s.size:Int):=by omega
 have hsi2:((65536:Int)≤(s.size:Int))=False:=eq_false hsi
 clear hsi
 have HN2:=Lib.hid hn2
 clear hs hn2 hn
 go_enter Try.func201,Try.ntmps201
 have hwr:IntKind.u64.wrap (s.size:Int)=(s.size:Int):=by rw [IntKind.wrap_u64];have:=HN.out;have:=HN2.out;omega
 go_wp2_with fail
 refine (put_ok wb B l s.size 16 w H.out (by decide) (by have:=HN.out;have:=HN2.out;omega) (by have:=HL.out;omega)).mono ?_
 rintro e w1 ⟨rfl,h4,h5⟩
 have H4:=Lib.hid h4
 have H5:=Lib.hid h5
 clear h4 h5 c0 H
 go_wp2_with fail
 have hsz:s.size=n:=HN.out.symm
 rw [hsz]
 have hnb:n≤9223372036854775806:=by have:=HN2.out;omega
 go_loopw [28] (fun i wr=>∃ k:Nat,k≤n∧i=.int .i64 k∧WrIs wr B wb (l++yaf n 16++ya4 (s.data.toList.take k)) 0∧WrMod wb w wr) (fun i _=>n - (intOf i).toNat)
 case atStart=>exact ⟨0,Nat.zero_le _,rfl,by have:=H4.out;rw [hsz] at this;simpa [ya4] using this,H5.out⟩
 case round=>
  obtain ⟨k,hk,rfl,hw,hm⟩:=hrel
  have HW:=Lib.hid hw
  have HM:=Lib.hid hm
  clear hw hm
  by_cases hlt:k<n
  ·have hki:(k:Int)<(n:Int):=by omega
   have hks:k<s.size:=by rw [hsz];exact hlt
   have HKL:Hid (k<s.data.toList.length):=Lib.hid (by rw [← HNL.out];exact hlt)
   have HBK:Hid (s.data.toList.getD k 0=s[k]'hks):=Lib.hid (by
    have h1:s.data.toList[k]? =some (s[k]'hks):=List.getElem?_eq_some_iff.2 ⟨HKL.out,rfl⟩
    simp [List.getD,h1])
   have HB8:Hid ((s[k]'hks).toNat<256):=Lib.hid (UInt8.toNat_lt _)
   go_wp2_with fail
   rw [IntKind.wrap_u64,Int.emod_eq_of_lt (by omega) (by have:=HB8.out;omega)]
   refine (put_ok wb B _ (s[k]).toNat 8 _ HW.out (by decide) HB8.out (by have:=HL.out;have:=HN2.out;rw [zae,zae,yae,ybr,zam];omega)).mono ?_
   rintro e w2 ⟨rfl,h6,h7⟩
   have H6:=Lib.hid h6
   have H7:=Lib.hid h7
   clear h6 h7
   go_wp2_with fail
   go_roundw
   case rel=>
    refine ⟨k+1,by omega,by go_num,?_,HM.out.trans H7.out⟩
    rw [ye2 _ _ HKL.out,HBK.out,←List.append_assoc]
    exact H6.out
   case measure=>simp [intOf];omega
  ·have hkn:k=n:=by omega
   subst hkn
   go_wp2_with fail
   go_ret
   exact ⟨rfl,by have:=HW.out;rwa [zaq (by rw [← HNL.out];exact zbm _),HNL.out,List.append_assoc] at this,HM.out⟩
def RdIs (w:World) (B rb:Nat) (l:List UInt8) (at':Nat) (err:Int):Prop:=
 ∃ ao cap,w.heap[rb]? =some (.cells #[.bool true,.slice ao l.length cap,.int .i64 (at':Int),.int .i64 err] 284 (0,0))∧B≤rb∧
  w.ownsRow B 5 1 (.slice ao l.length cap) l.length (l.map bv)∧∀ k,(Value.slice ao l.length cap).ownBlock=some k→k<rb
section
variable {w:World} {B rb:Nat} {l:List UInt8} {at':Nat} {err:Int}
theorem RdIs.lt (h:RdIs w B rb l at' err):rb<w.heap.size:=by
 obtain ⟨ao,cap,h1,_⟩:=h
 exact (zbp.1 h1).1
theorem RdIs.ext {w':World} (h:RdIs w B rb l at' err) (hx:Ext w w'):RdIs w' B rb l at' err:=by
 obtain ⟨ao,cap,h1,h2,h3,h4⟩:=h
 exact ⟨ao,cap,(hx.block rb (zbp.1 h1).1 id).trans h1,h2,ycs h3 hx,h4⟩
theorem RdIs.mod {F:Nat→Prop} {w':World} (h:RdIs w B rb l at' err) (hm:Mod F w w') (hF:∀ k,B≤k→¬ F k):RdIs w' B rb l at' err:=by
 obtain ⟨ao,cap,h1,h2,h3,h4⟩:=h
 exact ⟨ao,cap,(hm.block rb (zbp.1 h1).1 (hF _ h2)).trans h1,h2,yc2 h3 hm fun k hk=>hF k (yar h3 hk).1,h4⟩
theorem RdIs.c0 (h:RdIs w B rb l at' err):w.cell? ⟨rb,0,none⟩=some (.bool true):=by
 obtain ⟨ao,cap,h1,_⟩:=h
 rw [yac h1];rfl
theorem RdIs.c2 (h:RdIs w B rb l at' err):w.cell? ⟨rb,2,none⟩=some (.int .i64 (at':Int)):=by
 obtain ⟨ao,cap,h1,_⟩:=h
 rw [yac h1];rfl
theorem RdIs.c3 (h:RdIs w B rb l at' err):w.cell? ⟨rb,3,none⟩=some (.int .i64 err):=by
 obtain ⟨ao,cap,h1,_⟩:=h
 rw [yac h1];rfl
theorem RdIs.fz (h:RdIs w B rb l at' err) (j:Nat):w.frozen? ⟨rb,j,none⟩=false:=by
 obtain ⟨ao,cap,h1,_⟩:=h
 exact yay h1 j
theorem RdIs.setErr (h:RdIs w B rb l at' err) (e:Int):RdIs (w.setCell ⟨rb,3,none⟩ (.int .i64 e)) B rb l at' e:=by
 obtain ⟨ao,cap,h1,h2,h3,h4⟩:=h
 exact ⟨ao,cap,ybl (j:=3) (v:=.int .i64 e) h1,h2,ycw h3 (yb6 h3 h1 (by decide)),h4⟩
theorem RdIs.setAt (h:RdIs w B rb l at' err) (q:Nat):RdIs (w.setCell ⟨rb,2,none⟩ (.int .i64 (q:Int))) B rb l q err:=by
 obtain ⟨ao,cap,h1,h2,h3,h4⟩:=h
 exact ⟨ao,cap,ybl (j:=2) (v:=.int .i64 (q:Int)) h1,h2,ycw h3 (yb6 h3 h1 (by decide)),h4⟩
end
set_option maxHeartbeats 1000000 in
theorem ropen_c (v:Value) (l:List UInt8) (w:World) (h:Bs w v l) (hl:l.length≤140737488355328):
  Calls Try.prog 126 #[v] w fun e w'=>∃ rb,e=.returned (.pointer (some ⟨rb,0,none⟩))∧w.heap.size≤rb∧Ext w w'∧RdIs w' w.heap.size rb l 0 0:=by
 have H:=Lib.hid h;clear h
 go_enter Try.func126,Try.ntmps126
 go_wp2_with fail
 refine (clone_c v l w H.out hl).mono ?_
 rintro e w1 ⟨ao,cap,rfl,hx,hown⟩
 have HX:=Lib.hid hx
 have HO:=Lib.hid hown
 clear hx hown
 go_wp2
 go_ret
 have hx2:=(Ext.refl w1).alloc (.cells #[.bool true,.slice ao l.length cap,.int .i64 0,.int .i64 0] 284)
 exact ⟨_,rfl,HX.out.size,HX.out.trans hx2,ao,cap,heap_alloc_new w1 _,HX.out.size,ycs HO.out hx2,fun k hk=>(yar HO.out hk).2⟩
set_option maxHeartbeats 1000000 in
theorem ygy (rb B:Nat) (l:List UInt8) (at':Nat) (err:Int) (w:World) (h:RdIs w B rb l at' err):
  Calls Try.prog 128 #[.pointer (some ⟨rb,0,none⟩)] w fun e w'=>e=.returned (.int .i64 err)∧w=w':=by
 have c0:=h.c0
 have c3:=h.c3
 clear h
 go_enter Try.func128,Try.ntmps128
 go_wp2
 go_ret
 exact ⟨rfl,rfl⟩
def ykl (l:List UInt8) (at':Nat) (err:Int):Int:=if err=0 then 8 * (l.length:Int) - (at':Int) else 0
theorem yde (l:List UInt8) (at':Nat):ykl l at' 0=8 * (l.length:Int) - (at':Int):=rfl
theorem leftI_ne (l:List UInt8) (at':Nat) {err:Int} (h:err≠0):ykl l at' err=0:=if_neg h
theorem left_wrap {n at':Nat} (h:n≤140737488355328) (ha:at'≤8 * n):IntKind.i64.wrap (8 * (n:Int))=8 * (n:Int)∧IntKind.i64.wrap (8 * (n:Int) - (at':Int))=8 * (n:Int) - (at':Int):=by
 rw [IntKind.wrap_i64,IntKind.wrap_i64]
 omega
set_option maxHeartbeats 1000000 in
theorem yj1 (rb B:Nat) (l:List UInt8) (at':Nat) (err:Int) (w:World) (h:RdIs w B rb l at' err) (hl:l.length≤140737488355328) (ha:at'≤8 * l.length):
  Calls Try.prog 203 #[.pointer (some ⟨rb,0,none⟩)] w fun e w'=>e=.returned (.int .i64 (ykl l at' err))∧∃ n,w'=w.drewN n:=by
 have H:=Lib.hid h
 have c2:=h.c2
 obtain ⟨ao,cap,h1,h2,h3,h4⟩:=h
 have c1:w.cell? ⟨rb,1,none⟩=some (.slice ao l.length cap):=by rw [yac h1];rfl
 clear h1 h2 h3 h4
 by_cases h0:err=0
 ·subst h0
  obtain ⟨n,hn⟩:∃ n,n=l.length:=⟨_,rfl⟩
  have hw:=left_wrap hl ha
  rw [← hn] at c1 hw
  rw [yde,←hn]
  obtain ⟨hw1,hw2⟩:=hw
  clear hn hl ha
  go_enter Try.func203,Try.ntmps203
  go_wp2_with fail
  refine (ygy rb B l at' 0 w H.out).mono ?_
  rintro e w1 ⟨rfl,rfl⟩
  go_wp2_with fail
  go_quiet (fail)
  go_wp2
  go_ret
  exact ⟨rfl,_,rfl⟩
 ·rw [leftI_ne _ _ h0]
  have hb:(err != 0)=true:=by simpa using h0
  clear h0 hl ha
  go_enter Try.func203,Try.ntmps203
  go_wp2_with fail
  refine (ygy rb B l at' err w H.out).mono ?_
  rintro e w1 ⟨rfl,rfl⟩
  go_wp2
  go_ret
  exact ⟨rfl,0,rfl⟩
theorem i64_and7 (a:Nat) (ha:a<4611686018427387904):bits .and .i64 (a:Int) 7=((a % 8:Nat):Int):=by
 show IntKind.i64.wrap ((BitVec.ofInt 64 (a:Int) &&& BitVec.ofInt 64 ((7:Nat):Int)).toNat:Int)=_
 rw [BitVec.toNat_and,ofInt_u64 a (by omega),ofInt_u64 7 (by decide),IntKind.wrap_i64,show (7:Nat)=2 ^ 3 - 1 by decide,Nat.and_two_pow_sub_one_eq_mod]
 omega
theorem p_and2 {b s k:Nat} (hb:b<256) (h8:k≤8):bits .and .u8 ((b:Int) / 2 ^ s) ((2 ^ k - 1:Nat):Int)=((b:Int) / 2 ^ s % 2 ^ k):=by
 have h0:b / 2 ^ s<256:=Nat.lt_of_le_of_lt (Nat.div_le_self _ _) hb
 have h1:=p_and (b / 2 ^ s) h8
 have e:(((b / 2 ^ s:Nat):Int))=(b:Int) / 2 ^ s:=by push_cast;rfl
 generalize b / 2 ^ s=z at *
 rw [show (z:Int) % 256=(z:Int) by omega,e] at h1
 exact h1
theorem p_join {x k p:Nat} (hx:x * 2 ^ k<18446744073709551616) (hk:k≤8) (hp:p<2 ^ k):
  bits .or .u64 (IntKind.u64.wrap ((x:Int) * 2 ^ k)) (IntKind.u64.wrap (p:Int))=((x * 2 ^ k+p:Nat):Int):=by
 have h8:=p_pow8 hk
 rw [show (x:Int) * 2 ^ k=((x * 2 ^ k:Nat):Int) by push_cast;rfl,IntKind.wrap_u64,IntKind.wrap_u64,Int.emod_eq_of_lt (by omega) (by omega),Int.emod_eq_of_lt (by omega) (by omega),u64_or_nat _ _ hx (by omega),
  ←Nat.shiftLeft_eq,Nat.shiftLeft_add_eq_or_of_lt hp]
def ya5 (l:List UInt8) (at' n:Nat):List Bool:=((ya4 l).drop at').take n
theorem ygb {l:List UInt8} {at' n:Nat} (h:at'+n≤8 * l.length):(ya5 l at' n).length=n:=by
 unfold ya5
 rw [zam,zav,ybr];omega
theorem yql (l:List UInt8) (at' i j:Nat):ya5 l at' (i+j)=ya5 l at' i++ya5 l (at'+i) j:=by
 unfold ya5
 rw [List.take_add,List.drop_drop]
theorem yg0 {l:List UInt8} {at' k:Nat} (h:at' / 8<l.length) (hk:at' % 8+k≤8):val (ya5 l at' k)=(l.getD (at' / 8) 0).toNat / 2 ^ (8 - at' % 8 - k) % 2 ^ k:=by
 unfold ya5
 rw [yoe l at' k h hk,yh4,Nat.shiftRight_eq_div_pow]
set_option maxRecDepth 100000 in
set_option maxHeartbeats 4000000 in
theorem rget_ok (rb B:Nat) (l:List UInt8) (at' n:Nat) (w:World) (h:RdIs w B rb l at' 0) (hn:n≤64) (hf:at'+n≤8 * l.length) (hl:l.length≤140737488355328):
  Calls Try.prog 127 #[.pointer (some ⟨rb,0,none⟩),.int .i64 n] w fun e w'=>e=.returned (.int .u64 (val (ya5 l at' n):Int))∧RdIs w' B rb l (at'+n) 0∧Mod (fun k=>k=rb) w w':=by
 have H:=Lib.hid h;clear h
 have HF:=Lib.hid hf
 have HL:=Lib.hid hl
 have hleft:(n:Int)≤ykl l at' 0:=by rw [yde];omega
 have hlb:ykl l at' 0≤9223372036854775807:=by rw [yde];omega
 generalize hlf:ykl l at' 0=lf at hleft hlb
 have HLF:=Lib.hid hlf
 clear hlf hf hl
 go_enter Try.func127,Try.ntmps127
 go_wp2_with fail
 refine (ygy rb B l at' 0 w H.out).mono ?_
 rintro e w1 ⟨rfl,rfl⟩
 go_wp2_with fail
 refine (yj1 rb B l at' 0 w H.out HL.out (by have:=HF.out;omega)).mono ?_
 rintro e w1 ⟨rfl,nd,rfl⟩
 rw [HLF.out]
 go_wp2_with fail
 go_loopw [1,5] (fun i x wr=>∃ m:Nat,m≤n∧i=.int .i64 m∧x=.int .u64 (val (ya5 l at' (n - m)):Int)∧RdIs wr B rb l (at'+(n - m)) 0∧Mod (fun k=>k=rb) w wr) (fun i _ _=>(intOf i).toNat)
 case atStart=>exact ⟨n,zbm _,rfl,by simp [ya5,yh3],by simpa using H.out.ext ((Ext.refl w).drewN nd),((Ext.refl w).drewN nd).mod⟩
 case round=>
  obtain ⟨m,hm,rfl,rfl,hr,hmod⟩:=hrel
  have HR:=Lib.hid hr
  have HM:=Lib.hid hmod
  clear hr hmod
  by_cases h0:m=0
  ·subst h0
   go_wp2_with fail
   go_ret
   exact ⟨rfl,by simpa using HR.out,HM.out⟩
  ·obtain ⟨q,hq⟩:∃ q,q=at'+(n - m):=⟨_,rfl⟩
   obtain ⟨r,hrr⟩:∃ r,r=8 - q % 8:=⟨_,rfl⟩
   obtain ⟨k,hk⟩:∃ k,k=min m r:=⟨_,rfl⟩
   have c2:=HR.out.c2
   have f2:=HR.out.fz 2
   rw [← hq] at c2
   have hand:=i64_and7 q (by have:=HF.out;have:=HL.out;omega)
   have hrw:IntKind.i64.wrap (8 - ((q % 8:Nat):Int))=(r:Int):=by rw [IntKind.wrap_i64,hrr];omega
   have HQ:=Lib.hid hq
   have HRR:=Lib.hid hrr
   have hr8:0<r∧r≤8:=by omega
   have HKD:=Lib.hid hk
   clear hq hrr hk
   go_wp2_with fail
   all_goals
    have hk:=HKD.out
    first
     |(have hk7:8 - (q:Int) % 8=(k:Int):=by have:=HRR.out;rw [hk,Nat.min_eq_right (by omega)];omega
       have HK7:=Lib.hid hk7;clear hk7)
     |(have hk7:(m:Int)=(k:Int):=by have:=HRR.out;rw [hk,Nat.min_eq_left (by omega)]
       have HK7:=Lib.hid hk7;clear hk7)
    have HR6:Hid (8 - (q:Int) % 8=(r:Int)):=Lib.hid (by have:=HRR.out;omega)
    have HKM:Hid (k≤m∧k≤r):=Lib.hid (by rw [hk];exact ⟨Nat.min_le_left _ _,Nat.min_le_right _ _⟩)
    have HK8:Hid (0<k∧k≤8):=Lib.hid (by omega)
    have hk8:k≤8:=HK8.out.2
    have hqf:q+m≤8 * l.length:=by have:=HF.out;have:=HQ.out;omega
    clear c2 f2 hk hand hrw
    obtain ⟨ao,cap,hb1,hb2,hb3,hb4⟩:=HR.out
    obtain ⟨g,cap',he,hg1,hg2⟩:=World.ownsRow.form hb3 (by omega)
    simp only [Value.slice.injEq] at he
    obtain ⟨rfl,_,rfl⟩:=he
    rw [← HQ.out] at hb1
    obtain ⟨ln,hln⟩:∃ ln,ln=l.length:=⟨_,rfl⟩
    obtain ⟨j,hj⟩:∃ j,j=q / 8:=⟨_,rfl⟩
    obtain ⟨b,hb⟩:∃ b,b=(l.getD j 0).toNat:=⟨_,rfl⟩
    obtain ⟨s,hs⟩:∃ s,s=r - k:=⟨_,rfl⟩
    have hjl:j<l.length:=by omega
    have c1:wr.cell? ⟨rb,1,none⟩=some (.slice (some ⟨g,0,none⟩) ln cap):=by rw [yac hb1,hln];rfl
    have c2:wr.cell? ⟨rb,2,none⟩=some (.int .i64 (q:Int)):=by rw [yac hb1];rfl
    have cg:wr.cell? ⟨g,j,none⟩=some (.int .u8 (b:Int)):=by
     rw [World.ownsRow.cellAt hb3 _ (by omega),hb]
     simp [bv,List.getD,zaa hjl]
    have HA:Hid ((q:Int) / 8=(j:Int)∧(j:Int)<(ln:Int)∧IntKind.i64.wrap ((r:Int) - (k:Int))=(s:Int)∧(b:Int) / 2 ^ min s 8=(b:Int) / 2 ^ s):=
     Lib.hid ⟨by omega,by omega,by rw [IntKind.wrap_i64];have:=HKM.out;omega,by rw [Nat.min_eq_left (by omega)]⟩
    have HB8:Hid (b<256):=Lib.hid (by rw [hb];exact UInt8.toNat_lt _)
    have HPV:Hid (val (ya5 l q k)=b / 2 ^ s % 2 ^ k):=Lib.hid (by
     have:=HRR.out;have:=HKM.out
     rw [yg0 (by omega) (by omega),hb,hj,hs,show 8 - q % 8 - k=r - k by omega])
    have HSD:=Lib.hid hs
    clear hb1 hb2 hb3 hb4 hg1 hg2 hln hj hb hs hjl hqf
    refine ycl 19 _
     [ex (.pointer (some ⟨rb,0,none⟩)),
      ex (.pointer (some ⟨rb,0,none⟩)),
      ex (.pointer (some ⟨rb,1,none⟩)),
      ex (.slice (some ⟨g,0,none⟩) ln cap),
      ex (.pointer (some ⟨rb,0,none⟩)),
      ex (.pointer (some ⟨rb,0,none⟩)),
      ex (.pointer (some ⟨rb,2,none⟩)),
      ex (.int .i64 (q:Int)),
      ex (.int .i64 (j:Int)),
      ex (.pointer (some ⟨g,j,none⟩)),
      ex (.int .u8 (b:Int)),
      ex (.int .i64 (r:Int)),
      ex (.int .i64 (k:Int)),
      ex (.int .i64 (s:Int)),
      ex (.int .u8 ((b / 2 ^ s:Nat):Int)),
      ex (.int .i64 (k:Int)),
      ex (.int .u8 ((2 ^ k % 256:Nat):Int)),
      ex (.int .u8 ((2 ^ k - 1:Nat):Int)),
      ex (.int .u8 ((b / 2 ^ s % 2 ^ k:Nat):Int))]
     (by kernel_rfl) (by kernel_rfl) (by kernel_rfl) rfl ⟨yaq,yaq,yaq,yaq,yaq,yaq,yaq,yaq,yaq,yaq,yaq,yaq,yaq,yaq,yaq,yaq,yaq,yaq,yaq,trivial⟩ ?_ ?_
    ·simp only [List.take_succ_cons,List.take_zero]
     go_tidy
     refine RhOps.mk (RhOp.moveA (by decide) (.free rfl) 0 (fun _ w _=>Ext.refl w) rfl rfl (.pointer (some ⟨rb,0,none⟩)) rfl (fun _ _ _=>rfl)) ?_
     refine RhOps.mk (RhOp.at (by decide) (.free rfl) ?_) ?_
     rotate_left
     refine RhOps.mk (RhOp.at (by decide) (.free rfl) ?_) ?_
     rotate_left
     refine RhOps.mk (RhOp.at (by decide) (.free rfl) ?_) ?_
     rotate_left
     refine RhOps.mk (RhOp.moveA (by decide) (.free rfl) 0 (fun _ w _=>Ext.refl w) rfl rfl (.pointer (some ⟨rb,0,none⟩)) rfl (fun _ _ _=>rfl)) ?_
     refine RhOps.mk (RhOp.at (by decide) (.free rfl) ?_) ?_
     rotate_left
     refine RhOps.mk (RhOp.at (by decide) (.free rfl) ?_) ?_
     rotate_left
     refine RhOps.mk (RhOp.at (by decide) (.free rfl) ?_) ?_
     rotate_left
     refine RhOps.mk (RhOp.at (by decide) (.free rfl) ?_) ?_
     rotate_left
     refine RhOps.mk (RhOp.at (by decide) (.free rfl) ?_) ?_
     rotate_left
     refine RhOps.mk (RhOp.at (by decide) (.free rfl) ?_) ?_
     rotate_left
     refine RhOps.mk (RhOp.moveA (by decide) (.free rfl) 6 (fun _ w _=>Ext.refl w) rfl rfl (.int .i64 (r:Int)) (congrArg (Value.int .i64) HR6.out) (fun _ _ _=>rfl)) ?_
     refine RhOps.mk (RhOp.moveA (by decide) (.free rfl) 7 (fun _ w _=>Ext.refl w) rfl rfl (.int .i64 (k:Int)) (congrArg (Value.int .i64) HK7.out) (fun _ _ _=>rfl)) ?_
     refine RhOps.mk (RhOp.at (by decide) (.free rfl) ?_) ?_
     rotate_left
     refine RhOps.mk (RhOp.at (by decide) (.free rfl) ?_) ?_
     rotate_left
     refine RhOps.mk (RhOp.moveA (by decide) (.free rfl) 7 (fun _ w _=>Ext.refl w) rfl rfl (.int .i64 (k:Int)) (congrArg (Value.int .i64) HK7.out) (fun _ _ _=>rfl)) ?_
     refine RhOps.mk (RhOp.at (by decide) (.free rfl) ?_) ?_
     rotate_left
     refine RhOps.mk (RhOp.at (by decide) (.free rfl) ?_) ?_
     rotate_left
     refine RhOps.mk (RhOp.at (by decide) (.free rfl) ?_) ?_
     rotate_left
     exact RhOps.done
     ·intro bb vals ρ w' hC hd hS
      have r42:ρ (.tmp 42)=.pointer (some ⟨rb,0,none⟩):=(hS.tmp 42).trans (hd.at 0 rfl)
      refine (show yap _ _ _ _ (fun v w''=>Ext w' w''∧v=.pointer (some ⟨rb,0,none⟩)) from ?_)
      clear hC hd hS
      go_simp
      exact Ext.refl _
     ·intro bb vals ρ w' hC hd hS
      have r43:ρ (.tmp 43)=.pointer (some ⟨rb,0,none⟩):=(hS.tmp 43).trans (hd.at 1 rfl)
      refine (show yap _ _ _ _ (fun v w''=>Ext w' w''∧v=.pointer (some ⟨rb,1,none⟩)) from ?_)
      clear hC hd hS
      go_simp
      exact Ext.refl _
     ·intro bb vals ρ w' hC hd hS
      have r44:ρ (.tmp 44)=.pointer (some ⟨rb,1,none⟩):=(hS.tmp 44).trans (hd.at 2 rfl)
      have qc:=hC.cell c1
      refine (show yap _ _ _ _ (fun v w''=>Ext w' w''∧v=.slice (some ⟨g,0,none⟩) ln cap) from ?_)
      clear hC hd hS
      go_simp
      exact Ext.refl _
     ·intro bb vals ρ w' hC hd hS
      have r46:ρ (.tmp 46)=.pointer (some ⟨rb,0,none⟩):=(hS.tmp 46).trans (hd.at 4 rfl)
      refine (show yap _ _ _ _ (fun v w''=>Ext w' w''∧v=.pointer (some ⟨rb,0,none⟩)) from ?_)
      clear hC hd hS
      go_simp
      exact Ext.refl _
     ·intro bb vals ρ w' hC hd hS
      have r47:ρ (.tmp 47)=.pointer (some ⟨rb,0,none⟩):=(hS.tmp 47).trans (hd.at 5 rfl)
      refine (show yap _ _ _ _ (fun v w''=>Ext w' w''∧v=.pointer (some ⟨rb,2,none⟩)) from ?_)
      clear hC hd hS
      go_simp
      exact Ext.refl _
     ·intro bb vals ρ w' hC hd hS
      have r48:ρ (.tmp 48)=.pointer (some ⟨rb,2,none⟩):=(hS.tmp 48).trans (hd.at 6 rfl)
      have qc:=hC.cell c2
      refine (show yap _ _ _ _ (fun v w''=>Ext w' w''∧v=.int .i64 (q:Int)) from ?_)
      clear hC hd hS
      go_simp
      exact Ext.refl _
     ·intro bb vals ρ w' hC hd hS
      have r49:ρ (.tmp 49)=.int .i64 (q:Int):=(hS.tmp 49).trans (hd.at 7 rfl)
      have rc:=hS.const
      refine (show yap _ _ _ _ (fun v w''=>Ext w' w''∧v=.int .i64 (j:Int)) from ?_)
      clear hC hd hS
      go_simp
      exact ⟨Ext.refl _,HA.out.1⟩
     ·intro bb vals ρ w' hC hd hS
      have r45:ρ (.tmp 45)=.slice (some ⟨g,0,none⟩) ln cap:=(hS.tmp 45).trans (hd.at 3 rfl)
      have r50:ρ (.tmp 50)=.int .i64 (j:Int):=(hS.tmp 50).trans (hd.at 8 rfl)
      refine (show yap _ _ _ _ (fun v w''=>Ext w' w''∧v=.pointer (some ⟨g,j,none⟩)) from ?_)
      have hjl:(j:Int)<(ln:Int):=HA.out.2.1
      clear hC hd hS
      go_simp
      exact Ext.refl _
     ·intro bb vals ρ w' hC hd hS
      have r51:ρ (.tmp 51)=.pointer (some ⟨g,j,none⟩):=(hS.tmp 51).trans (hd.at 9 rfl)
      have qc:=hC.cell cg
      refine (show yap _ _ _ _ (fun v w''=>Ext w' w''∧v=.int .u8 (b:Int)) from ?_)
      clear hC hd hS
      go_simp
      exact Ext.refl _
     ·intro bb vals ρ w' hC hd hS
      have r53:ρ (.tmp 53)=.int .i64 (r:Int):=(hS.tmp 53).trans (hd.at 11 rfl)
      have r54:ρ (.tmp 54)=.int .i64 (k:Int):=(hS.tmp 54).trans (hd.at 12 rfl)
      refine (show yap _ _ _ _ (fun v w''=>Ext w' w''∧v=.int .i64 (s:Int)) from ?_)
      clear hC hd hS
      go_simp
      exact ⟨Ext.refl _,HA.out.2.2.1⟩
     ·intro bb vals ρ w' hC hd hS
      have r52:ρ (.tmp 52)=.int .u8 (b:Int):=(hS.tmp 52).trans (hd.at 10 rfl)
      have r55:ρ (.tmp 55)=.int .i64 (s:Int):=(hS.tmp 55).trans (hd.at 13 rfl)
      refine (show yap _ _ _ _ (fun v w''=>Ext w' w''∧v=.int .u8 ((b / 2 ^ s:Nat):Int)) from ?_)
      clear hC hd hS
      go_simp
      exact ⟨Ext.refl _,HA.out.2.2.2⟩
     ·intro bb vals ρ w' hC hd hS
      have r57:ρ (.tmp 57)=.int .i64 (k:Int):=(hS.tmp 57).trans (hd.at 15 rfl)
      have rc:=hS.const
      refine (show yap _ _ _ _ (fun v w''=>Ext w' w''∧v=.int .u8 ((2 ^ k % 256:Nat):Int)) from ?_)
      clear hC hd hS
      go_simp
      exact ⟨Ext.refl _,ynj k⟩
     ·intro bb vals ρ w' hC hd hS
      have r58:ρ (.tmp 58)=.int .u8 ((2 ^ k % 256:Nat):Int):=(hS.tmp 58).trans (hd.at 16 rfl)
      have rc:=hS.const
      refine (show yap _ _ _ _ (fun v w''=>Ext w' w''∧v=.int .u8 ((2 ^ k - 1:Nat):Int)) from ?_)
      clear hC hd hS
      go_simp
      exact ⟨Ext.refl _,p_mask HK8.out.1 HK8.out.2⟩
     ·intro bb vals ρ w' hC hd hS
      have r56:ρ (.tmp 56)=.int .u8 ((b / 2 ^ s:Nat):Int):=(hS.tmp 56).trans (hd.at 14 rfl)
      have r59:ρ (.tmp 59)=.int .u8 ((2 ^ k - 1:Nat):Int):=(hS.tmp 59).trans (hd.at 17 rfl)
      refine (show yap _ _ _ _ (fun v w''=>Ext w' w''∧v=.int .u8 ((b / 2 ^ s % 2 ^ k:Nat):Int)) from ?_)
      clear hC hd hS
      go_simp
      exact ⟨Ext.refl _,p_and2 HB8.out HK8.out.2⟩
    ·intro vals w' hC hV
     have e18:=hV 18 (by decide)
     simp only [vlist,ex,List.getD_cons_zero,List.getD_cons_succ] at e18
     have HC':=Lib.hid hC;clear hC hV
     simp only [List.drop_succ_cons,List.drop_zero]
     have hr':=HR.out.ext HC'.out
     have hm':=HM.out.ext HC'.out
     rw [← HQ.out] at hr'
     clear c1 c2 cg
     have c2:=hr'.c2
     have f2:=hr'.fz 2
     have HR':=Lib.hid hr'
     have HM':=Lib.hid hm'
     clear hr' hm'
     have hqb:(q:Int)≤9223372036854775000:=by have:=HF.out;have:=HL.out;have:=HQ.out;omega
     go_wp2_with fail
     go_roundw
     case rel=>
      have h1:=HKM.out.1
      have h2:=HK7.out
      have hpp:b / 2 ^ s % 2 ^ k<2 ^ k:=Nat.mod_lt _ (Nat.two_pow_pos _)
      have hadd:=yql l at' (n - m) k
      rw [show n - m+k=n - (m - k) by omega,←HQ.out] at hadd
      have hlen:(ya5 l q k).length=k:=ygb (by have:=HF.out;have:=HQ.out;omega)
      have hval:val (ya5 l at' (n - (m - k)))=val (ya5 l at' (n - m)) * 2 ^ k+b / 2 ^ s % 2 ^ k:=by rw [hadd,yge,hlen,HPV.out]
      have hlt:val (ya5 l at' (n - m)) * 2 ^ k<18446744073709551616:=by
       have h3:=yly (ya5 l at' (n - (m - k)))
       rw [ygb (by have:=HF.out;omega)] at h3
       have h4:2 ^ (n - (m - k))≤2 ^ 64:=Nat.pow_le_pow_right (by decide) (by omega)
       rw [hval] at h3
       omega
      have hj:=p_join hlt HK8.out.2 hpp
      rw [← hval] at hj
      have e1:q+k=at'+(n - (m - k)):=by have:=HQ.out;omega
      have hset:=HR'.out.setAt (q+k)
      have hms:=Mod.setCell (F:=fun i=>i=rb) (p:=⟨rb,2,none⟩) HM'.out (fun _=>rfl) (.int .i64 ((q+k:Nat):Int))
      refine ⟨m - k,by omega,?_,?_,?_,?_⟩
      ·refine congrArg (Value.int .i64) ?_
       omega
      ·refine congrArg (Value.int .u64) ?_
       have hj':bits .or .u64 (IntKind.u64.wrap ((val (ya5 l at' (n - m)):Int) * 2 ^ k)) (IntKind.u64.wrap ((b:Int) / 2 ^ s % 2 ^ k))=(val (ya5 l at' (n - (m - k))):Int):=by
        have h5:=hj
        rw [show ((b / 2 ^ s % 2 ^ k:Nat):Int)=(b:Int) / 2 ^ s % 2 ^ k by push_cast;rfl] at h5
        exact h5
       first
        |(rw [show 8 - q % 8=k by omega];exact hj')
        |(rw [show m=k by omega] at hj' ⊢;exact hj')
      ·rw [← e1]
       first
        |rw [show (q:Int)+(8 - (q:Int) % 8)=((q+k:Nat):Int) by omega]
        |rw [show (q:Int)+(m:Int)=((q+k:Nat):Int) by omega]
       exact hset
      ·first
        |rw [show (q:Int)+(8 - (q:Int) % 8)=((q+k:Nat):Int) by omega]
        |rw [show (q:Int)+(m:Int)=((q+k:Nat):Int) by omega]
       exact hms
     case measure=>
      simp only [intOf]
      have:=HK7.out
      have:=HK8.out
      omega
end Go.Proofs.Ytiiekgcjilelpaa
