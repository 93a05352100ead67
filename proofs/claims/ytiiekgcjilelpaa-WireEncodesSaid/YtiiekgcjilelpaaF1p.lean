/- F1. -/
import Derived.Test.YtiiekgcjilelpaaE4p
import Derived.Test.YtiiekgcjilelpaaG3p
import Derived.Lib.AppendZeros
open List renaming getElem?_eq_some_iff → zab, getElem?_append_right → zac, getElem?_append_left → zad, length_append → zae, mem_cons_of_mem → zak, mem_cons_self → zal, map_append → zba, length_map → zbd, replicate → zbg
open Nat renaming lt_or_ge → zbk, le_trans → zbl, le_refl → zbm, zero_le → zbn, zero_add → zbo
open Array renaming getElem?_eq_some_iff → zbp
set_option linter.unusedSimpArgs false
set_option linter.unusedVariables false
namespace Go.Proofs.Ytiiekgcjilelpaa
open Go.RowKit
theorem Try.mixed:Try.prog.follows .mixedOrders=true:=by kernel_rfl
structure WS where
 bl:List Bool
 err:Int
 n:Nat
structure RS where
 l:List UInt8
 at':Nat
 err:Int
def WS.new:WS:=⟨[],0,0⟩
def WS.put (s:WS) (x n:Int):WS:=⟨putL s.bl s.err x.toNat n,putE s.err x.toNat n,s.n+64⟩
def WS.text (s:WS) (t:ByteArray):WS:=⟨yvk s.bl s.err t,s.err,s.n+524304⟩
def WS.out (s:WS):List UInt8:=if s.err=0 then yao s.bl else []
def RS.new (l:List UInt8):RS:=⟨l,0,0⟩
def RS.num (s:RS) (n:Int):Nat:=getV s.l s.at' s.err n
def RS.get (s:RS) (n:Int):RS:=⟨s.l,yp1 s.l s.at' s.err n,getE s.l s.at' s.err n⟩
theorem WS.put_len {s:WS} (h:s.bl.length≤s.n) (x n:Int):(s.put x n).bl.length≤(s.put x n).n:=by
 simp only [WS.put,putL]
 split
 ·rename_i hf
  rw [zae,yae]
  obtain ⟨_,h1,h2,_⟩:=hf
  omega
 ·omega
theorem WS.text_len {s:WS} (h:s.bl.length≤s.n) (t:ByteArray) (ht:t.size<65536):(s.text t).bl.length≤(s.text t).n:=by
 simp only [WS.text,yvk]
 split
 ·rw [zae]
  unfold ya2
  rw [zae,yae,ybr]
  have:t.data.toList.length=t.size:=rfl
  omega
 ·omega
theorem RS.at_get {s:RS} (h:s.at'≤8 * s.l.length) (n:Int):(s.get n).at'≤8 * (s.get n).l.length:=getAt_le s.l s.at' s.err n h
inductive Th (ξ:Type) where
 |wr (s:WS)
 |rd (s:RS)
 |rr (s:RS)
 |byt (l:List UInt8)
 |own (l:List UInt8)
 |bts (l:List Bool)
 |ins (l:List Int)
 |bal (l:List UInt8)
 |ext (x:ξ)
section
variable {ξ:Type}
def ycy (J:ObI ξ):Th ξ→World→Value→Prop
 |.wr s,w,u=>∃ B wb,u=.pointer (some ⟨wb,0,none⟩)∧WrIs w B wb s.bl s.err∧s.bl.length≤s.n
 |.rd s,w,u=>∃ B rb,u=.pointer (some ⟨rb,0,none⟩)∧RdIs w B rb s.l s.at' s.err∧s.l.length≤140737488355328∧s.at'≤8 * s.l.length
 |.rr s,w,u=>Bs w u (bbs ((ya4 s.l).drop s.at'))∧(∀ k,u.ownBlock=some k→k<w.heap.size)∧s.l.length≤100000∧s.at'≤8 * s.l.length
 |.byt l,w,u=>Bs w u l
 |.own l,w,u=>∃ B,B≤w.heap.size∧w.ownsRow B 5 1 u l.length (l.map bv)
 |.bts l,w,u=>∃ B,B≤w.heap.size∧w.ownsRow B 5 1 u l.length ((bbs l).map bv)
 |.ins l,w,u=>∃ B,B≤w.heap.size∧w.ownsRow B 3 1 u l.length (l.map iv)
 |.bal l,w,u=>∃ b t cur c,u=.slice (some ⟨b,0,none⟩) l.length c∧w.heap[b]? =some (.cells cur t (0,0))∧l.length≤c∧c≤maxLen∧cur.toList.take l.length=l.map bv
 |.ext x,w,u=>J.holds x w u
def RowF (w:World) (rb j:Nat) (k:Nat):Prop:=k=rb∨∃ v g,w.cell? ⟨rb,j,none⟩=some v∧v.ownBlock=some g∧g≤k∧k≤rb
def ycz (J:ObI ξ):Th ξ→World→Value→Nat→Prop
 |.wr _,w,u,k=>∃ wb,u=.pointer (some ⟨wb,0,none⟩)∧WrF w wb k
 |.rd _,w,u,k=>∃ rb,u=.pointer (some ⟨rb,0,none⟩)∧RowF w rb 1 k
 |.ext x,w,u,k=>J.foot x w u k
 |.byt l,_,u,k=>l≠[]∧u.ownBlock=some k
 |_,_,u,k=>u.ownBlock=some k
def thOwn (J:ObI ξ) (b:Th ξ) (w:World) (u:Value) (k:Nat):Prop:=match b with
 |.ext x=>J.own x w u k
 |b=>ycz J b w u k
theorem yod {w w':World} {u:Value} (h:Bs w u []):Bs w' u []:=by
 obtain ⟨h1,ao,cap,rfl,h2,h3,h4,_⟩:=h
 exact ⟨h1,ao,cap,rfl,h2,h3,h4,fun a _ j u hj=>by simp at hj⟩
theorem wr_stay {F:Nat→Prop} {w w':World} {B wb:Nat} {l:List Bool} {err:Int} (h:WrIs w B wb l err) (hm:Mod F w w') (hf:∀ k,WrF w wb k→¬ F k):WrIs w' B wb l err∧∀ k,WrF w' wb k→WrF w wb k:=by
 have hc:∃ v,w.cell? ⟨wb,1,none⟩=some v:=by obtain ⟨ao,cap,h1,_⟩:=h;exact ⟨_,by rw [yac h1];rfl⟩
 have hb:=hf wb (.inl rfl)
 obtain ⟨v,hv⟩:=hc
 refine ⟨?_,fun k hk=>?_⟩
 ·obtain ⟨ao,cap,h1,h2,h3⟩:=h
  refine ⟨ao,cap,(hm.block wb (zbp.1 h1).1 hb).trans h1,h2,yc2 h3 hm fun k hk=>hf k (.inr ⟨_,by rw [yac h1];rfl,hk⟩)⟩
 ·rcases hk with rfl|⟨v',h1,h2⟩
  ·exact .inl rfl
  ·have:=hm.cell hv hb
   rw [this] at h1;cases h1
   exact .inr ⟨v,hv,h2⟩
theorem rowF_stay {F:Nat→Prop} {w w':World} {rb j:Nat} {v:Value} (hv:w.cell? ⟨rb,j,none⟩=some v) (hm:Mod F w w') (hb:¬ F rb):∀ k,RowF w' rb j k→RowF w rb j k:=fun k hk=>by
 rcases hk with rfl|⟨v',g,h1,h2⟩
 ·exact .inl rfl
 ·have:=hm.cell hv hb
  rw [this] at h1;cases h1
  exact .inr ⟨v,g,hv,h2⟩
theorem rd_stay {F:Nat→Prop} {w w':World} {B rb:Nat} {l:List UInt8} {at':Nat} {err:Int} (h:RdIs w B rb l at' err) (hm:Mod F w w') (hf:∀ k,RowF w rb 1 k→¬ F k):RdIs w' B rb l at' err∧∀ k,RowF w' rb 1 k→RowF w rb 1 k:=by
 have hb:=hf rb (.inl rfl)
 obtain ⟨ao,cap,h1,h2,h3,h4⟩:=h
 exact ⟨⟨ao,cap,(hm.block rb (zbp.1 h1).1 hb).trans h1,h2,yc2 h3 hm fun k hk=>hf k (.inr ⟨_,k,by rw [yac h1];rfl,hk,zbm _,Nat.le_of_lt (h4 k hk)⟩),h4⟩,rowF_stay (by rw [yac h1];rfl) hm hb⟩
theorem rd_low {w:World} {B rb:Nat} {l:List UInt8} {at':Nat} {err:Int} (h:RdIs w B rb l at' err):∃ B0,B0≤rb∧RdIs w B0 rb l at' err∧∀ k,B0≤k→k≤rb→RowF w rb 1 k:=by
 obtain ⟨ao,cap,h1,h2,h3,h4⟩:=h
 cases hg:(Value.slice ao l.length cap).ownBlock with
 |some g=>
  have:=h4 g hg
  refine ⟨g,by omega,⟨ao,cap,h1,by omega,?_,h4⟩,fun k hk1 hk2=>.inr ⟨_,g,by rw [yac h1];rfl,hg,hk1,hk2⟩⟩
  obtain ⟨q1,q2⟩:=h3
  refine ⟨q1,?_⟩
  rcases q2 with q2|⟨g',cap',cur,e1,e2,e3⟩
  ·exact .inl q2
  ·rw [e1] at hg
   simp only [Value.ownBlock,Option.some.injEq] at hg
   exact .inr ⟨g',cap',cur,e1,by omega,e3⟩
 |none=>
  refine ⟨rb,zbm _,⟨ao,cap,h1,zbm _,?_,h4⟩,fun k hk1 hk2=>.inl (by omega)⟩
  obtain ⟨q1,q2⟩:=h3
  refine ⟨q1,?_⟩
  rcases q2 with q2|⟨g',cap',cur,e1,e2,e3⟩
  ·exact .inl q2
  ·rw [e1] at hg;cases hg
theorem rd_high {w:World} {B rb:Nat} {l:List UInt8} {at':Nat} {err:Int} (h:RdIs w B rb l at' err) {k:Nat} (hk:RowF w rb 1 k):B≤k∧k≤rb:=by
 obtain ⟨ao,cap,h1,h2,h3,h4⟩:=h
 rcases hk with rfl|⟨v,g,c1,c2,c3,c4⟩
 ·exact ⟨h2,zbm _⟩
 ·rw [yac h1] at c1
  simp at c1
  subst c1
  have:=(yar h3 c2).1
  omega
theorem yhr {w:World} {B n sz:Nat} {e:TypeId} {u:Value} {xs:List Value} (h:w.ownsRow B e sz u n xs):u.oneCell'=true:=by
 obtain ⟨ao,cap,rfl⟩:=yer h;rfl
theorem yrf (J:ObI ξ) (b:Th ξ) (w:World) (u:Value) (h:ycy J b w u) (F:Nat→Prop) (w':World) (hm:Mod F w w') (hf:∀ k,ycz J b w u k→¬ F k):ycy J b w' u∧∀ k,ycz J b w' u k→ycz J b w u k:=by
  cases b with
  |wr s=>
   obtain ⟨B,wb,rfl,h1,h2⟩:=h
   obtain ⟨a,b⟩:=wr_stay h1 hm fun k hk=>hf k ⟨wb,rfl,hk⟩
   exact ⟨⟨B,wb,rfl,a,h2⟩,fun k ⟨wb',he,hk⟩=>by cases he;exact ⟨wb,rfl,b k hk⟩⟩
  |rd s=>
   obtain ⟨B,wb,rfl,h1,h2⟩:=h
   obtain ⟨a,b⟩:=rd_stay h1 hm fun k hk=>hf k ⟨wb,rfl,hk⟩
   exact ⟨⟨B,wb,rfl,a,h2⟩,fun k ⟨wb',he,hk⟩=>by cases he;exact ⟨wb,rfl,b k hk⟩⟩
  |rr s=>
   obtain ⟨h1,h2,h3⟩:=h
   exact ⟨⟨Bs.mod h1 hm fun k hk _=>hf k hk,fun k hk=>Nat.lt_of_lt_of_le (h2 k hk) hm.size,h3⟩,fun k hk=>hk⟩
  |byt l=>
   refine ⟨?_,fun k hk=>hk⟩
   by_cases hl:l=[]
   ·subst hl;exact yod h
   ·exact Bs.mod h hm fun k hk _=>hf k ⟨hl,hk⟩
  |own l=>obtain ⟨B,hB,h⟩:=h;exact ⟨⟨B,zbl hB hm.size,yc2 h hm hf⟩,fun k hk=>hk⟩
  |bts l=>obtain ⟨B,hB,h⟩:=h;exact ⟨⟨B,zbl hB hm.size,yc2 h hm hf⟩,fun k hk=>hk⟩
  |ins l=>obtain ⟨B,hB,h⟩:=h;exact ⟨⟨B,zbl hB hm.size,yc2 h hm hf⟩,fun k hk=>hk⟩
  |bal l=>
   obtain ⟨b,t,cur,c,rfl,h1,h2⟩:=h
   refine ⟨⟨b,t,cur,c,rfl,?_,h2⟩,fun k hk=>hk⟩
   rw [hm.block b (zbp.1 h1).1 (hf b rfl)];exact h1
  |ext x=>exact ⟨(J.stays x w u h F w' hm hf).1,(J.stays x w u h F w' hm hf).2.1⟩
def thI (J:ObI ξ):ObI (Th ξ):=⟨ycy J,ycz J,thOwn J,fun _=>true,fun b w u h F w' hm hf=>⟨(yrf J b w u h F w' hm hf).1,(yrf J b w u h F w' hm hf).2,by
  cases b with
  |ext x=>exact (J.stays x w u h F w' hm hf).2.2
  |_=>exact (yrf J _ w u h F w' hm hf).2⟩,
 fun b w u h=>by
  cases b with
  |wr s=>obtain ⟨B,wb,rfl,_⟩:=h;rfl
  |rd s=>obtain ⟨B,wb,rfl,_⟩:=h;rfl
  |rr s=>obtain ⟨⟨_,ao,cap,rfl,_⟩,_⟩:=h;rfl
  |byt l=>obtain ⟨_,ao,cap,rfl,_⟩:=h;rfl
  |own l=>obtain ⟨B,hB,h⟩:=h;exact yhr h
  |bts l=>obtain ⟨B,hB,h⟩:=h;exact yhr h
  |ins l=>obtain ⟨B,hB,h⟩:=h;exact yhr h
  |bal l=>obtain ⟨b,t,cur,c,rfl,_⟩:=h;rfl
  |ext x=>exact J.ones x w u h,
 fun b w u k h=>by
  cases b with
  |ext x=>exact J.owns x w u k h
  |_=>exact h⟩
def yc6 (hx:ξ→Bool):Th ξ→Bool
 |.wr _=>false
 |.rd _=>false
 |.rr _=>false
 |.ext x=>hx x
 |_=>true
theorem yj7 (w:World) (B:Nat) (e:TypeId) (sz:Nat):w.ownsRow B e sz nilV 0 []:=⟨by simp,.inl ⟨rfl,rfl⟩⟩
theorem nil_own (J:ObI ξ):∀ w,(thI J).holds (.own []) w nilV∧∀ j,¬ (thI J).foot (.own []) w nilV j:=fun w=>⟨⟨0,zbn _,yj7 w 0 _ 1⟩,fun j h=>by cases h⟩
def yd2 (mem:Mem (Th ξ)):PV→Option (List UInt8)
 |.obj i=>(match mem[i]? with
  |some ⟨.us (.byt l),_⟩=>some l
  |some ⟨.us (.own l),_⟩=>some l
  |some ⟨.us (.bts l),_⟩=>some (bbs l)
  |some ⟨.us (.bal l),_⟩=>some l
  |_=>none)
 |.v (.slice none 0 0)=>some []
 |.sub i sz lo hi=>(match eqb sz 1,mem[i]? with
  |true,some ⟨.us (.byt l),_⟩=>some ((l.drop lo).take (hi - lo))
  |true,some ⟨.us (.own l),_⟩=>some ((l.drop lo).take (hi - lo))
  |true,some ⟨.us (.bal l),_⟩=>some ((l.drop lo).take (hi - lo))
  |_,_=>none)
 |_=>none
variable {J:ObI ξ} {W0:World} {G:Nat→Prop} {w w':World} {e e':Env} {mem mem' ms:Mem (Th ξ)}
theorem yi0 {B:Nat} {u:Value} {l:List UInt8} {t:TypeId} (h:w.ownsRow B t 1 u l.length (l.map bv)):Bs w u l:=Rs.of_owns h
theorem bs_bal {u:Value} {l:List UInt8} (h:ycy J (.bal l) w u):Bs w u l:=by
 obtain ⟨b,t,cur,c,rfl,h1,h2,h3,h4⟩:=h
 refine ⟨by simp,some ⟨b,0,none⟩,c,rfl,h2,h3,(fun h=>by cases h),fun a ha j v hj=>?_⟩
 cases ha
 rw [add_head,yac h1,←Array.getElem?_toList]
 rw [← h4,List.getElem?_take] at hj
 split at hj
 ·exact hj
 ·cases hj
theorem ysy {ao:Option Addr} {n cap lo hi:Nat} {l:List UInt8} (hb:Bs w (.slice ao n cap) l) (h1:lo≤hi) (h2:hi≤n):Bs w (.slice (if cap=lo then ao else ao.map (·.add (lo * 1))) (hi - lo) (cap - lo)) ((l.drop lo).take (hi - lo)):=by
 obtain ⟨_,ao',cap',he,g1,g2,g3,_⟩:=id hb
 simp only [Value.slice.injEq] at he
 obtain ⟨rfl,hn,rfl⟩:=he
 exact Bs.sub hb h1 h2 (ao':=if cap=lo then ao else ao.map (·.add (lo * 1))) (cap':=cap - lo) (by omega) (by unfold maxLen at g2;omega) (fun hnone=>by
  split at hnone
  ·have:=g3 hnone;omega
  ·cases ao with
   |none=>have:=g3 rfl;omega
   |some a=>cases hnone) (fun a' ha' hlt=>by
  split at ha'
  ·omega
  ·cases ao with
   |none=>cases ha'
   |some a=>simp at ha';exact ⟨a,rfl,ha'.symm⟩)
theorem yc4 (hM:MemOk W0 G (thI J) w e mem) {p:PV} {l:List UInt8} (h:yd2 mem p=some l) {u:Value} (hu:p.is e u):Bs w u l:=by
 unfold yd2 at h
 split at h
 ·rename_i i
  split at h
  ·rename_i hm
   simp only [Option.some.injEq] at h;subst h
   exact hM.holds i u _ hu hm
  ·rename_i hm
   simp only [Option.some.injEq] at h;subst h
   obtain ⟨B,_,hh⟩:=hM.holds i u _ hu hm
   exact yi0 hh
  ·rename_i bl _ hm
   simp only [Option.some.injEq] at h;subst h
   obtain ⟨B,_,hh⟩:=hM.holds i u _ hu hm
   rw [show bl.length=(bbs bl).length from (ycg bl).symm] at hh
   exact yi0 hh
  ·rename_i hm
   simp only [Option.some.injEq] at h;subst h
   exact bs_bal (J:=J) (hM.holds i u _ hu hm)
  ·cases h
 ·simp only [Option.some.injEq] at h;subst h
  have hu':u=.slice none 0 0:=hu
  rw [hu'];exact Bs.nil w
 ·rename_i i sz lo hi
  obtain ⟨ao,n,cap,hE,h1,h2,rfl⟩:=hu
  split at h
  ·rename_i hs hm
   obtain rfl:=eqb_eq.1 hs
   simp only [Option.some.injEq] at h;subst h
   exact ysy (hM.holds i _ _ hE hm) h1 h2
  ·rename_i hs hm
   obtain rfl:=eqb_eq.1 hs
   simp only [Option.some.injEq] at h;subst h
   obtain ⟨B,_,hh⟩:=hM.holds i _ _ hE hm
   exact ysy (yi0 hh) h1 h2
  ·rename_i hs hm
   obtain rfl:=eqb_eq.1 hs
   simp only [Option.some.injEq] at h;subst h
   exact ysy (bs_bal (J:=J) (hM.holds i _ _ hE hm)) h1 h2
  ·cases h
 ·cases h
theorem ydj {m m':Mem (Th ξ)} (hl:MLe m m') {p:PV} {l:List UInt8} (h:yd2 m p=some l):yd2 m' p=some l:=by
 unfold yd2 at h ⊢
 split at h
 ·split at h
  ·rename_i hm;simp only [hl _ _ hm (by simp)];exact h
  ·rename_i hm;simp only [hl _ _ hm (by simp)];exact h
  ·rename_i hm;simp only [hl _ _ hm (by simp)];exact h
  ·rename_i hm;simp only [hl _ _ hm (by simp)];exact h
  ·cases h
 ·exact h
 ·split at h
  ·rename_i hs hm;simp only [hl _ _ hm (by simp),hs];exact h
  ·rename_i hs hm;simp only [hl _ _ hm (by simp),hs];exact h
  ·rename_i hs hm;simp only [hl _ _ hm (by simp),hs];exact h
  ·cases h
 ·cases h
theorem bs_lt {u:Value} {l:List UInt8} (h:Bs w u l) (hl:l≠[]) {k:Nat} (hk:u.ownBlock=some k):k<w.heap.size:=by
 obtain ⟨_,ao,cap,rfl,h1,h2,h3,h4⟩:=h
 cases ao with
 |none=>cases hk
 |some a=>
  cases l with
  |nil=>exact absurd rfl hl
  |cons b l=>
   have:=h4 a rfl 0 (bv b) rfl
   have hlt:=World.block_lt_of_cell? w _ this
   rw [ygc] at hlt
   cases hk
   exact hlt
theorem yur (I:ObI (Th ξ)) (w:World):MemOk w (ybc I w [] []) I w [] []:=
 ⟨rfl,fun i u n h=>by simp at h,fun i u n h=>by simp at h,fun i u n h=>by simp at h,fun i j u v n m h=>by simp at h,Mod.refl _ w,fun i u n h=>by simp at h⟩
theorem yus (h:MemOk w (ybc (thI J) w e mem) (thI J) w e mem) (hro:∀ n∈mem,n.mu=false) {u:Value} {l:List UInt8} (hb:Bs w u l):MemOk w (ybc (thI J) w (e++[u]) (mem++[⟨.us (.byt l),false⟩])) (thI J) w (e++[u]) (mem++[⟨.us (.byt l),false⟩]):=by
 have hget:∀ (i:Nat) (v:Value) (n:En (Th ξ)),(e++[u])[i]? =some v→(mem++[⟨.us (.byt l),false⟩])[i]? =some n→(e[i]? =some v∧mem[i]? =some n)∨(v=u∧n=⟨.us (.byt l),false⟩):=fun i v n hv hn=>by
  have hl:=h.len
  rcases zbk i e.length with hi|hi
  ·rw [zad hi] at hv
   rw [zad (by omega)] at hn
   exact .inl ⟨hv,hn⟩
  ·rw [zac hi] at hv
   rw [zac (by omega)] at hn
   rw [hl] at hv
   cases hq:i - mem.length with
   |zero=>rw [hq] at hv hn;simp at hv hn;exact .inr ⟨hv.symm,hn.symm⟩
   |succ q=>rw [hq] at hv;simp at hv
 have hmu:∀ (i:Nat) (v:Value) (n:En (Th ξ)),(e++[u])[i]? =some v→(mem++[⟨.us (.byt l),false⟩])[i]? =some n→n.mu=false:=fun i v n hv hn=>by
  rcases hget i v n hv hn with ⟨_,h2⟩|⟨_,rfl⟩
  ·exact hro n (List.mem_of_getElem? h2)
  ·rfl
 refine ⟨by simp [h.len],fun i v n hv hn=>?_,fun i v n hv hn k hk=>?_,fun i v n hv hn hm=>?_,fun i j v x n m hv hn hm=>?_,Mod.refl _ w,fun i v n hv hn k hk=>.inr (footO.2 ⟨i,v,n,hv,hn,hk⟩)⟩
 ·rcases hget i v n hv hn with ⟨h1,h2⟩|⟨rfl,rfl⟩
  ·exact (h.holds i v n h1 h2).mono (Grows.push e u)
  ·exact hb
 ·rcases hget i v n hv hn with ⟨h1,h2⟩|⟨rfl,rfl⟩
  ·exact h.lt i v n h1 h2 k hk
  ·exact bs_lt hb hk.1 hk.2
 ·rw [hmu i v n hv hn] at hm;cases hm
 ·rw [hmu i v n hv hn] at hm;cases hm
end
section
variable {ξ:Type} {J:ObI ξ} {hx:ξ→Bool}
theorem tn {x:Int} (h:0≤x∧x<18446744073709551616):((x.toNat:Nat):Int)=x∧x.toNat<18446744073709551616:=by omega
def natP (p:PV):Option Nat:=match p with
 |.kI .i64 (.ofNat n)=>some n
 |_=>none
theorem ykd {p:PV} {n:Nat} (h:natP p=some n) {e:Env} {u:Value} (hu:p.is e u):u=.int .i64 (n:Int):=by
 unfold natP at h
 split at h
 ·simp only [Option.some.injEq] at h;subst h;exact hu
 ·cases h
def F_new:Nat×Fn2 (Th ξ):=(118,rowN (yc6 hx) fun us mem=>match us with|[]=>some ([],.c (.one (.obj 0)),.wr .new)|_=>none)
theorem yjo:RowOk Try.prog (thI J) (yc6 hx) (F_new (hx:=hx)).1 (F_new (hx:=hx)).2:=by
 refine yg3 Try.call118 fun args mem ps r b hs hp W0 G w E us hM ha=>?_
 split at hs
 ·simp only [Option.some.injEq,Prod.mk.injEq] at hs
  obtain ⟨rfl,rfl,rfl⟩:=hs
  obtain rfl:=allC0 ha
  refine (wnew_c w.heap.size w (zbm _)).mono fun x w' ⟨wb,h1,h2,h3,h4⟩=>⟨_,_,h1,rfl,h3,⟨w.heap.size,wb,rfl,h4,zbm _⟩,fun k ⟨wb',he,hk⟩=>?_⟩
  cases he
  exact ⟨h4.fge k hk,WrF.lt h4 hk⟩
 ·cases hs
def F_put:Nat×Fn2 (Th ξ):=(119,row1 (yc6 hx) fun us mem=>match us with
 |[.one p,.one x,.one n]=>(match hOf p,valP x,natP n with
  |some i,some (.int .u64 xv),some nv=>(match mem[i]? with
   |some ⟨.us (.wr s),_⟩=>(match leb nv 64&&leb s.n 500000000 with
    |true=>some (i,[0≤xv∧xv<18446744073709551616],.c (.one (.obj 0)),.wr (s.put xv (nv:Int)))
    |false=>none)
   |_=>none)
  |_,_,_=>none)
 |_=>none)
theorem ytm {w:World} {s:WS} {xv nv:Int} {u:Value} (h:ycy J (.wr s) w u) (q1:0≤xv∧xv<18446744073709551616) (q2:-9223372036854775808≤nv∧nv≤9223372036854775807) (q3:s.n≤500000000):
  Calls Try.prog 119 #[u,.int .u64 xv,.int .i64 nv] w (fun x w'=>∃ v,x=.returned v∧(SV.c (.one (.obj 0))).is [u] v∧Mod (fun k=>ycz J (.wr s) w u k) w w'∧ycy J (.wr (s.put xv nv)) w' u∧∀ k,ycz J (.wr (s.put xv nv)) w' u k→(ycz J (.wr s) w u k∨w.heap.size≤k)∧k<w'.heap.size):=by
 obtain ⟨B,wb,rfl,h1,h2⟩:=h
 obtain ⟨t1,t2⟩:=tn q1
 have:=wput_c wb B s.bl s.err xv.toNat nv w h1 t2 q2 (by omega)
 rw [t1] at this
 refine this.mono fun x w' ⟨g1,g2,g3⟩=>⟨_,g1,rfl,g3.1.mono fun k _ hk=>⟨wb,rfl,hk⟩,⟨B,wb,rfl,g2,WS.put_len h2 xv nv⟩,fun k ⟨wb',he,hk⟩=>?_⟩
 cases he
 refine ⟨?_,WrF.lt g2 hk⟩
 rcases zbk k w.heap.size with hl|hl
 ·exact .inl ⟨wb,rfl,g3.2 k hk hl⟩
 ·exact .inr hl
theorem yu0:RowOk Try.prog (thI J) (yc6 hx) (F_put (hx:=hx)).1 (F_put (hx:=hx)).2:=by
 refine yng Try.call119 fun args mem i ps r b b' hs hm hp W0 G w E us u hM ha hE hh=>?_
 split at hs
 ·rename_i p x n
  split at hs
  ·rename_i i' xv nv hi hxv hnv
   split at hs
   ·rename_i s mu hm'
    split at hs
    ·rename_i hle
     simp only [Option.some.injEq,Prod.mk.injEq] at hs
     obtain ⟨rfl,rfl,rfl,rfl⟩:=hs
     rw [Bool.and_eq_true] at hle
     have l1:=leb_le.1 hle.1
     have l2:=leb_le.1 hle.2
     rw [hm] at hm'
     simp only [Option.some.injEq,En.mk.injEq,Ob.us.injEq] at hm'
     obtain ⟨rfl,_⟩:=hm'
     obtain ⟨u0,u1,u2,rfl,a0,a1,a2⟩:=allC3 ha
     have e0:=ykp hi (yau a0)
     rw [hE] at e0;cases e0
     obtain rfl:=yad hxv (yau a1)
     obtain rfl:=ykd hnv (yau a2)
     exact ytm (J:=J) hh (hp _ (zal ..)) (by omega) l2
    ·cases hs
   ·cases hs
  ·cases hs
 ·cases hs
def yu1:Nat×Fn2 (Th ξ):=(119,row1 (yc6 hx) fun us mem=>match us with
 |[.one p,.one x,.one n]=>(match hOf p,valP x,natP n with
  |some i,some (.int .u64 xv),some nv=>(match mem[i]? with
   |some ⟨.us (.wr s),_⟩=>(match leb nv 64 with
    |true=>some (i,[0≤xv∧xv<18446744073709551616,s.n≤500000000],.c (.one (.obj 0)),.wr (s.put xv (nv:Int)))
    |false=>none)
   |_=>none)
  |_,_,_=>none)
 |_=>none)
theorem yqr:RowOk Try.prog (thI J) (yc6 hx) (yu1 (hx:=hx)).1 (yu1 (hx:=hx)).2:=by
 refine yng Try.call119 fun args mem i ps r b b' hs hm hp W0 G w E us u hM ha hE hh=>?_
 split at hs
 ·rename_i p x n
  split at hs
  ·rename_i i' xv nv hi hxv hnv
   split at hs
   ·rename_i s mu hm'
    split at hs
    ·rename_i hle
     simp only [Option.some.injEq,Prod.mk.injEq] at hs
     obtain ⟨rfl,rfl,rfl,rfl⟩:=hs
     have l1:=leb_le.1 hle
     rw [hm] at hm'
     simp only [Option.some.injEq,En.mk.injEq,Ob.us.injEq] at hm'
     obtain ⟨rfl,_⟩:=hm'
     obtain ⟨u0,u1,u2,rfl,a0,a1,a2⟩:=allC3 ha
     have e0:=ykp hi (yau a0)
     rw [hE] at e0;cases e0
     obtain rfl:=yad hxv (yau a1)
     obtain rfl:=ykd hnv (yau a2)
     exact ytm (J:=J) hh (hp _ (zal ..)) (by omega) (hp _ (zak _ (zal ..)))
    ·cases hs
   ·cases hs
  ·cases hs
 ·cases hs
def F_wtext:Nat×Fn2 (Th ξ):=(201,row1 (yc6 hx) fun us mem=>match us with
 |[.one p,.one x]=>(match hOf p,valP x with
  |some i,some (.string t)=>(match mem[i]? with
   |some ⟨.us (.wr s),_⟩=>(match leb s.n 500000000 with
    |true=>some (i,[t.size<65536],.c (.one (.obj 0)),.wr (s.text t))
    |false=>none)
   |_=>none)
  |_,_=>none)
 |_=>none)
theorem text_turn {w:World} {s:WS} {t:ByteArray} {u:Value} (h:ycy J (.wr s) w u) (q1:t.size<65536) (q3:s.n≤500000000):
  Calls Try.prog 201 #[u,.string t] w (fun x w'=>∃ v,x=.returned v∧(SV.c (.one (.obj 0))).is [u] v∧Mod (fun k=>ycz J (.wr s) w u k) w w'∧ycy J (.wr (s.text t)) w' u∧∀ k,ycz J (.wr (s.text t)) w' u k→(ycz J (.wr s) w u k∨w.heap.size≤k)∧k<w'.heap.size):=by
 obtain ⟨B,wb,rfl,h1,h2⟩:=h
 refine (wtext_c wb B s.bl s.err t w h1 q1 (by omega)).mono fun x w' ⟨g1,g2,g3⟩=>⟨_,g1,rfl,g3.1.mono fun k _ hk=>⟨wb,rfl,hk⟩,⟨B,wb,rfl,g2,WS.text_len h2 t q1⟩,fun k ⟨wb',he,hk⟩=>?_⟩
 cases he
 refine ⟨?_,WrF.lt g2 hk⟩
 rcases zbk k w.heap.size with hl|hl
 ·exact .inl ⟨wb,rfl,g3.2 k hk hl⟩
 ·exact .inr hl
def yog:Nat×Fn2 (Th ξ):=(201,row1 (yc6 hx) fun us mem=>match us with
 |[.one p,.one x]=>(match hOf p,valP x with
  |some i,some (.string t)=>(match mem[i]? with
   |some ⟨.us (.wr s),_⟩=>some (i,[t.size<65536,s.n≤500000000],.c (.one (.obj 0)),.wr (s.text t))
   |_=>none)
  |_,_=>none)
 |_=>none)
theorem ys4:RowOk Try.prog (thI J) (yc6 hx) (yog (hx:=hx)).1 (yog (hx:=hx)).2:=by
 refine yng Try.call201 fun args mem i ps r b b' hs hm hp W0 G w E us u hM ha hE hh=>?_
 split at hs
 ·rename_i p x
  split at hs
  ·rename_i i' t hi hxv
   split at hs
   ·rename_i s mu hm'
    simp only [Option.some.injEq,Prod.mk.injEq] at hs
    obtain ⟨rfl,rfl,rfl,rfl⟩:=hs
    rw [hm] at hm'
    simp only [Option.some.injEq,En.mk.injEq,Ob.us.injEq] at hm'
    obtain ⟨rfl,_⟩:=hm'
    obtain ⟨u0,u1,rfl,a0,a1⟩:=ygx ha
    have e0:=ykp hi (yau a0)
    rw [hE] at e0;cases e0
    obtain rfl:=yad hxv (yau a1)
    exact text_turn (J:=J) hh (hp _ (zal ..)) (hp _ (zak _ (zal ..)))
   ·cases hs
  ·cases hs
 ·cases hs
def yu7:Nat×Fn2 (Th ξ):=(121,rowN (yc6 hx) fun us mem=>match us with
 |[.one p]=>(match hOf p with
  |some i=>(match mem[i]? with
   |some ⟨.us (.wr s),_⟩=>(match leb s.n 500000000 with
    |true=>some ([],.tup [.one (.obj 0),.one (.v (.int .i64 s.err))],.own s.out)
    |false=>none)
   |_=>none)
  |_=>none)
 |_=>none)
theorem yug {w:World} {s:WS} {u:Value} (h:ycy J (.wr s) w u) (q1:s.n≤500000000):
  Calls Try.prog 121 #[u] w (fun x w'=>∃ v v0,x=.returned v∧(SV.tup [.one (.obj 0),.one (.v (.int .i64 s.err))]).is [v0] v∧Ext w w'∧ycy J (.own s.out) w' v0∧∀ k,ycz J (.own s.out) w' v0 k→w.heap.size≤k∧k<w'.heap.size):=by
 obtain ⟨B,wb,rfl,h1,h2⟩:=h
 by_cases h0:s.err=0
 ·have h1':=h1
  rw [h0] at h1'
  refine (done_ok wb B s.bl w h1' (by omega)).mono fun x w' ⟨ao,cap,g1,g2,g3⟩=>⟨_,.slice ao (yao s.bl).length cap,g1,⟨[.slice ao (yao s.bl).length cap,.int .i64 0],⟨rfl,by rw [h0];rfl,trivial⟩,rfl⟩,g2,?_,fun k hk=>?_⟩
  ·show ∃ B,B≤w'.heap.size∧w'.ownsRow B _ 1 _ s.out.length (s.out.map bv)
   rw [WS.out,if_pos h0]
   exact ⟨w.heap.size,g2.size,g3⟩
  ·exact yar g3 hk
 ·refine (done_err wb B s.bl s.err w h1 h0).mono fun x w' ⟨g1,n,g2⟩=>⟨_,nilV,g1,⟨[nilV,.int .i64 s.err],⟨rfl,rfl,trivial⟩,rfl⟩,by rw [g2];exact (Ext.refl w).drewN n,?_,fun k hk=>by cases hk⟩
  show ∃ B,B≤w'.heap.size∧w'.ownsRow B _ 1 _ s.out.length (s.out.map bv)
  rw [WS.out,if_neg h0]
  exact ⟨0,zbn _,yj7 w' 0 _ 1⟩
theorem yqw:RowOk Try.prog (thI J) (yc6 hx) (yu7 (hx:=hx)).1 (yu7 (hx:=hx)).2:=by
 refine yg3 Try.call121 fun args mem ps r b hs hp W0 G w E us hM ha=>?_
 split at hs
 ·rename_i p
  split at hs
  ·rename_i i hi
   split at hs
   ·rename_i s mu hm
    split at hs
    ·rename_i hle
     simp only [Option.some.injEq,Prod.mk.injEq] at hs
     obtain ⟨rfl,rfl,rfl⟩:=hs
     obtain ⟨u0,rfl,a0⟩:=yiq ha
     have e0:=ykp hi (yau a0)
     exact yug (J:=J) (hM.holds i _ _ e0 hm) (leb_le.1 hle)
    ·cases hs
   ·cases hs
  ·cases hs
 ·cases hs
def yoj:Nat×Fn2 (Th ξ):=(121,rowN (yc6 hx) fun us mem=>match us with
 |[.one p]=>(match hOf p with
  |some i=>(match mem[i]? with
   |some ⟨.us (.wr s),_⟩=>some ([s.n≤500000000],.tup [.one (.obj 0),.one (.v (.int .i64 s.err))],.own s.out)
   |_=>none)
  |_=>none)
 |_=>none)
theorem ymt:RowOk Try.prog (thI J) (yc6 hx) (yoj (hx:=hx)).1 (yoj (hx:=hx)).2:=by
 refine yg3 Try.call121 fun args mem ps r b hs hp W0 G w E us hM ha=>?_
 split at hs
 ·rename_i p
  split at hs
  ·rename_i i hi
   split at hs
   ·rename_i s mu hm
    simp only [Option.some.injEq,Prod.mk.injEq] at hs
    obtain ⟨rfl,rfl,rfl⟩:=hs
    obtain ⟨u0,rfl,a0⟩:=yiq ha
    have e0:=ykp hi (yau a0)
    exact yug (J:=J) (hM.holds i _ _ e0 hm) (hp _ (zal ..))
   ·cases hs
  ·cases hs
 ·cases hs
def yu2:Nat×Fn2 (Th ξ):=(126,rowN (yc6 hx) fun us mem=>match us with
 |[.one p]=>(match yd2 mem p with
  |some l=>some ([l.length≤100000],.c (.one (.obj 0)),.rd (.new l))
  |_=>none)
 |_=>none)
theorem yqs:RowOk Try.prog (thI J) (yc6 hx) (yu2 (hx:=hx)).1 (yu2 (hx:=hx)).2:=by
 refine yg3 Try.call126 fun args mem ps r b hs hp W0 G w E us hM ha=>?_
 split at hs
 ·rename_i p
  split at hs
  ·rename_i l hl
   simp only [Option.some.injEq,Prod.mk.injEq] at hs
   obtain ⟨rfl,rfl,rfl⟩:=hs
   obtain ⟨u0,rfl,a0⟩:=yiq ha
   have hb:=yc4 hM hl (yau a0)
   have q1:=hp _ (zal ..)
   refine (ropen_c u0 l w hb (by omega)).mono fun x w' ⟨rb,g1,g2,g3,g4⟩=>⟨_,_,g1,rfl,g3,⟨w.heap.size,rb,rfl,g4,zbl q1 (by decide),zbn _⟩,fun k ⟨rb',he,hk⟩=>?_⟩
   cases he
   have:=rd_high g4 hk
   have:=g4.lt
   omega
  ·cases hs
 ·cases hs
def F_get:Nat×Fn2 (Th ξ):=(127,row1 (yc6 hx) fun us mem=>match us with
 |[.one p,.one n]=>(match hOf p,valP n with
  |some i,some (.int .i64 nv)=>(match mem[i]? with
   |some ⟨.us (.rd s),_⟩=>some (i,[],svV (.int .u64 (s.num nv:Int)),.rd (s.get nv))
   |_=>none)
  |_,_=>none)
 |_=>none)
theorem rd_turn {f:FuncId} {us:Array Value} {w:World} {s s':RS} {v:Value} {rb:Nat} (hs:∃ B,RdIs w B rb s.l s.at' s.err) (hl:s.l.length≤140737488355328) (hl':s'.l.length≤140737488355328) (ha':s'.at'≤8 * s'.l.length)
  (h:∀ B,RdIs w B rb s.l s.at' s.err→Calls Try.prog f us w fun e w'=>e=.returned v∧RdIs w' B rb s'.l s'.at' s'.err∧Mod (fun k=>k=rb) w w'):
  Calls Try.prog f us w (fun x w'=>x=.returned v∧Mod (fun k=>ycz J (.rd s) w (.pointer (some ⟨rb,0,none⟩)) k) w w'∧ycy J (.rd s') w' (.pointer (some ⟨rb,0,none⟩))∧
   ∀ k,ycz J (.rd s') w' (.pointer (some ⟨rb,0,none⟩)) k→(ycz J (.rd s) w (.pointer (some ⟨rb,0,none⟩)) k∨w.heap.size≤k)∧k<w'.heap.size):=by
 obtain ⟨B,hB⟩:=hs
 obtain ⟨B0,hb0,h0,hlow⟩:=rd_low hB
 refine (h B0 h0).mono fun x w' ⟨g1,g2,g3⟩=>⟨g1,g3.mono fun k _ hk=>⟨rb,rfl,.inl hk⟩,⟨B0,rb,rfl,g2,hl',ha'⟩,fun k ⟨rb',he,hk⟩=>?_⟩
 cases he
 have hh:=rd_high g2 hk
 have:=g2.lt
 exact ⟨.inl ⟨rb,rfl,hlow k hh.1 hh.2⟩,by omega⟩
theorem yu5:RowOk Try.prog (thI J) (yc6 hx) (F_get (hx:=hx)).1 (F_get (hx:=hx)).2:=by
 refine yng Try.call127 fun args mem i ps r b b' hs hm hp W0 G w E us u hM ha hE hh=>?_
 split at hs
 ·rename_i p n
  split at hs
  ·rename_i i' nv hi hnv
   split at hs
   ·rename_i s mu hm'
    simp only [Option.some.injEq,Prod.mk.injEq] at hs
    obtain ⟨rfl,rfl,rfl,rfl⟩:=hs
    rw [hm] at hm'
    simp only [Option.some.injEq,En.mk.injEq,Ob.us.injEq] at hm'
    obtain ⟨rfl,_⟩:=hm'
    obtain ⟨u0,u1,rfl,a0,a1⟩:=ygx ha
    have e0:=ykp hi (yau a0)
    rw [hE] at e0;cases e0
    obtain rfl:=yad hnv (yau a1)
    obtain ⟨B,rb,rfl,h1,h2,h3⟩:=hh
    exact (rd_turn (J:=J) (s:=s) (s':=s.get nv) ⟨B,h1⟩ h2 h2 (RS.at_get h3 nv) fun B h=>rget_c rb B s.l s.at' s.err nv w h (by omega) h3).mono fun x w' ⟨g1,g2,g3,g4⟩=>⟨_,g1,rfl,g2,g3,g4⟩
   ·cases hs
  ·cases hs
 ·cases hs
def yuy:Nat×Fn2 (Th ξ):=(130,rowP fun us mem=>match us with
 |[.one p]=>(match hOf p with
  |some i=>(match mem[i]? with
   |some ⟨.us (.rd s),_⟩=>some ([],.int .i64 (endI s.l s.at' s.err))
   |_=>none)
  |_=>none)
 |_=>none)
theorem yqq:RowOk Try.prog (thI J) (yc6 hx) (yuy (ξ:=ξ)).1 (yuy (ξ:=ξ)).2:=by
 refine yrp Try.call130 (fun args m m' ps v hs hl=>?_) fun args mem ps v hs hp W0 G w E us hM ha=>?_
 ·split at hs
  ·split at hs
   ·split at hs
    ·rename_i hm
     simp only [hl _ _ hm (by simp)];exact hs
    ·cases hs
   ·cases hs
  ·cases hs
 ·split at hs
  ·rename_i p
   split at hs
   ·rename_i i hi
    split at hs
    ·rename_i s mu hm
     simp only [Option.some.injEq,Prod.mk.injEq] at hs
     obtain ⟨rfl,rfl⟩:=hs
     obtain ⟨u0,rfl,a0⟩:=yiq ha
     have e0:=ykp hi (yau a0)
     obtain ⟨B,rb,rfl,h1,h2,h3⟩:=hM.holds i _ _ e0 hm
     exact rend_c rb B s.l s.at' s.err w h1 (by omega) h3
    ·cases hs
   ·cases hs
  ·cases hs
end
theorem yft (n:Nat):(Builtin.zeroCells (Value.int .u8 0).cells n).toList=zbg n (.int .u8 0):=by
 simp only [Builtin.zeroCells,Value.cells]
 apply List.ext_getElem?
 intro j
 simp [List.getElem?_replicate]
 rcases zbk j n with h|h
 ·rw [if_pos h,List.getElem?_eq_getElem (by simpa using h)]
  simp [Nat.mod_one]
 ·rw [if_neg (by omega),List.getElem?_eq_none (by simpa using h)];rfl
theorem ync {P:Program} {w:World} {t tn ty e base:Nat} {v:Value} {n m:Nat} {xs:List Value} (ht:P.underlying t=some (.slice e)) (htn:P.underlying tn=some (.int .i64)) {i:TypeInfo} (hi:P.info? e=some i) (hz:i.zero=some (.int .u8 0)) (hs:i.size=1) (hby:i.bytes=1)
  (hown:w.ownsRow base e 1 v n xs) (hl:n+m≤1000000) (hbase:base≤w.heap.size):
  ∃ v' w',(Builtin.append_ #[t,tn] ty #[v,.int .i64 (m:Int)]).run P w=.ok v' w'∧w'.ownsRow base e 1 v' (n+m) (xs++zbg m (.int .u8 0))∧w.grownBy w' v.ownBlock∧(v'.ownBlock=v.ownBlock∨v'.ownBlock=some w.heap.size):=by
 have hw:IntKind.i64.wrap (m:Int)=m:=IntWalk.i64_in _ (by omega)
 have hneg:¬ ((m:Int)<0):=by omega
 have h48i:¬ (281474976710656<(m:Int)):=by omega
 have hx1:xs.length=n:=by simpa using hown.1
 have hlen:(xs++zbg m (Value.int .u8 0)).length=(n+m) * 1:=by simp [hx1]
 have hz1:(Value.int .u8 0).cells.size=1:=rfl
 have grown:∀ (old:Nat),old<n+m→∀ (row:Option Nat) (C:Array Value),C.toList=xs++zbg m (.int .u8 0)→
   (w.drew.alloc (.cells (C++Builtin.zeroCells (Value.int .u8 0).cells (grownCap w (n+m) old e - (n+m))) e)).ownsRow base e 1
    (.slice (some ⟨w.heap.size,0,none⟩) (n+m) (grownCap w (n+m) old e)) (n+m) (xs++zbg m (.int .u8 0))∧
   w.grownBy (w.drew.alloc (.cells (C++Builtin.zeroCells (Value.int .u8 0).cells (grownCap w (n+m) old e - (n+m))) e)) row:=by
  intro old ho row C hC
  have hge:=grownCap_ge w (n+m) old e
  have hcm:grownCap w (n+m) old e≤maxLen:=grownCap_le_maxLen w (n+m) old e (by unfold maxLen;omega)
  have hCs:C.size=n+m:=by rw [← Array.length_toList,hC];simp [hx1]
  refine ⟨⟨hlen,.inr ⟨w.heap.size,_,_,rfl,hbase,heap_alloc_new w.drew _,hge,hcm,?_,?_⟩⟩,⟨rfl,rfl,rfl,by simp,fun k hk _=>heap_alloc_old w.drew _ hk⟩⟩
  ·simp only [Array.size_append,size_zeroCells,hz1,hCs]
   omega
  ·simp only [Array.toList_append,hC]
   rw [← hlen]
   exact List.take_left
 by_cases hm:m=0
 ·subst hm
  have hw0:IntKind.i64.wrap 0=0:=by decide
  refine ⟨v,w,?_,by simpa using hown,⟨rfl,rfl,rfl,zbm _,fun _ _ _=>rfl⟩,.inl rfl⟩
  rcases hown.2 with ⟨rfl,rfl⟩|⟨g,cap,cur,rfl,hbg,hg,hnc,hcm,hcs,htake⟩
  ·simp [Builtin.append_,run_underlying ht,run_underlying htn,sizeOf,typeInfo,hi,asInt,asIntOf,hs,hw0]
  ·simp [Builtin.append_,run_underlying ht,run_underlying htn,sizeOf,typeInfo,hi,asInt,asIntOf,hs,hnc,storeCells,hw0]
 ·have hns:¬ (m * 1=0):=by omega
  have hns':m≠0:=hm
  rcases hown.2 with ⟨rfl,rfl⟩|⟨g,cap,cur,rfl,hbg,hg,hnc,hcm,hcs,htake⟩
  ·have hx:xs=[]:=List.eq_nil_of_length_eq_zero hx1
   subst hx
   have hr:=Lib.run_append_nil_zeros (P:=P) w t tn ty e i (.int .u8 0) .i64 .i64 ht htn hi hz m (by omega) (by omega) (by omega) (by rw [hby];omega)
   have hgr:=grown 0 (by omega) none (Builtin.zeroCells (Value.int .u8 0).cells m) (by rw [yft];simp)
   simp only [zbo] at hgr hr ⊢
   exact ⟨_,_,hr,hgr.1,hgr.2,.inr rfl⟩
  ·by_cases hroom:n+m≤cap
   ·have hfit:n * 1+(zbg m (Value.int .u8 0)).length≤cur.size:=by simp;omega
    have hst:=run_storeCells_at P g (n * 1) e (zbg m (Value.int .u8 0)) 0 cur w hg (by simpa using hfit) (fun u hu=>by rw [List.eq_of_mem_replicate hu];rfl)
    simp only [Nat.add_zero] at hst
    have hr:(Builtin.append_ #[t,tn] ty #[.slice (some ⟨g,0,none⟩) n cap,.int .i64 (m:Int)]).run P w=.ok (.slice (some ⟨g,0,none⟩) (n+m) cap) (w.setRow g (cur.toList.take (n * 1)++zbg m (Value.int .u8 0)++cur.toList.drop (n * 1+(zbg m (Value.int .u8 0)).length)).toArray):=by
     simp [Builtin.append_,run_underlying ht,run_underlying htn,sizeOf,typeInfo,zeroValue,hi,hz,asInt,asIntOf,hw,hneg,h48i,hs,hby,hns',hroom,Addr.add_lit,yft]
     have hst':(storeCells { block:=g,off:=n } (zbg m (Value.int IntKind.u8 0))).run P w=.ok () (w.setRow g (List.take n cur.toList++(zbg m (Value.int IntKind.u8 0)++List.drop (n+m) cur.toList)).toArray):=by simpa using hst
     rw [hst'];rfl
    refine ⟨_,_,hr,⟨hlen,.inr ⟨g,cap,_,rfl,hbg,setRow_heap w g cur _ e _ hg,hroom,hcm,?_,?_⟩⟩,⟨rfl,rfl,rfl,by simp,fun k _ hk=>setRow_other w g k _ (fun e=>hk (by simp [Value.ownBlock,e]))⟩,.inl rfl⟩
    ·simp at hfit ⊢
     omega
    ·rw [htake,←hlen]
     exact List.take_left
   ·have holds:∀ j u,xs[j]? =some u→w.cell? ((⟨g,0,none⟩:Addr).add j)=some u:=hown.cells (g:=g) rfl
    have hfo:=run_firstCells_some (P:=P) w.drew 1 n ⟨g,0,none⟩ n cap xs (by simpa using hx1) (by simpa using holds)
    have h63':¬ (9223372036854775807<((n:Int)+(m:Int))):=by omega
    have h48'':¬ (281474976710656<Builtin.nextslicecap (n+m) cap):=by
     have:=growslice_fits (need:=n+m) (old:=cap) (bytes:=1) (by omega) (by omega)
     omega
    have h48':¬ (281474976710656<Builtin.nextslicecap (n+m) cap * 1):=by
     have:=growslice_fits (need:=n+m) (old:=cap) (bytes:=1) (by omega) (by omega)
     omega
    have hr:(Builtin.append_ #[t,tn] ty #[.slice (some ⟨g,0,none⟩) n cap,.int .i64 (m:Int)]).run P w=.ok (.slice (some ⟨w.heap.size,0,none⟩) (n+m) (grownCap w (n+m) cap e))
      (w.drew.alloc (.cells ((xs.toArray++Builtin.zeroCells (Value.int .u8 0).cells m)++Builtin.zeroCells (Value.int .u8 0).cells (grownCap w (n+m) cap e - (n+m))) e)):=by
     simp [Builtin.append_,run_underlying ht,run_underlying htn,sizeOf,typeInfo,zeroValue,hi,hz,asInt,asIntOf,hw,hneg,h48i,hs,hby,hns',hroom,h63',h48',h48'',Question.forced,hfo,newRow,grownCap]
    have hgr:=grown cap (by omega) (Value.ownBlock (.slice (some ⟨g,0,none⟩) n cap)) (xs.toArray++Builtin.zeroCells (Value.int .u8 0).cells m) (by rw [Array.toList_append,yft])
    exact ⟨_,_,hr,hgr.1,hgr.2,.inr rfl⟩
section
variable {ξ:Type} {J:ObI ξ} {hx:ξ→Bool} {W0:World} {G:Nat→Prop} {w w':World} {E:Env} {MEM:Mem (Th ξ)}
theorem yti {I:ObI (Th ξ)} {b b':Th ξ} {u v':Value} {i:Nat} (hM:MemOk W0 G I w E MEM) (hi:MEM[i]? =some ⟨.us b,true⟩) (hu:E[i]? =some u) (hm:Mod (fun k=>I.own b w u k) w w') (hh:I.holds b' w' v')
  (hf:∀ k,I.foot b' w' v' k→(I.own b w u k∨w.heap.size≤k)∧k<w'.heap.size):MemOk W0 G I w' (E++[v']) (MEM.set i ⟨.dead,true⟩++[⟨.us b',true⟩]):=by
 have hsub:subM MEM [i]=[⟨.us b,true⟩]:=by simp [subM,hi]
 have hn:∀ a b c:Nat,[i][a]? =some c→[i][b]? =some c→a=b:=fun a b c ha hb=>by
  have h1:=(zab.1 ha).1
  have h2:=(zab.1 hb).1
  simp at h1 h2;omega
 have hb:∀ j∈[i],j<MEM.length:=fun j hj=>by simp at hj;subst hj;exact (zab.1 hi).1
 have hee:∀ j k:Nat,[i][j]? =some k→[u][j]? =E[k]? :=fun j k hj=>by
  have h1:=(zab.1 hj).1
  simp at h1
  subst h1
  simp at hj
  subst hj
  rw [hu];rfl
 have h0:=sub_ok (e:=[u]) hM hn hb rfl hee (by rw [hsub];intro n hn';simp at hn';subst hn';exact yf1 rfl)
 have hFF:∀ k,OwnOf I w [u] (subM MEM [i]) k↔I.own b w u k:=fun k=>by
  rw [hsub]
  constructor
  ·rintro ⟨j,u',n,h1,h2,h3,h4⟩
   have hj:=(zab.1 h1).1
   simp at hj
   subst hj
   simp at h1 h2
   subst h1;subst h2
   exact h4
  ·intro h;exact ⟨0,u,_,rfl,rfl,rfl,h⟩
 have h':MemOk w (ybc I w [u] (subM MEM [i])) I w' [u,v'] [⟨.dead,true⟩,⟨.us b',true⟩]:=by
  refine ⟨rfl,fun j x n hx' hn'=>?_,fun j x n hx' hn' k hk=>?_,fun j x n hx' hn' hmu k hk=>?_,fun j1 j2 x y n m hx' hn' hmu hy hm' hij k hk1 hk2=>?_,hm.mono fun k _ hk=>footE.2 ((hFF k).2 hk),fun j x n hx' hn' k hk=>?_⟩
  ·match j,hx',hn' with
   |0,hx',hn'=>simp at hx' hn';subst hx';subst hn';exact I.ones b w u (hM.holds i u _ hu hi)
   |1,hx',hn'=>simp at hx' hn';subst hx';subst hn';exact hh
   |j+2,hx',_=>simp at hx'
  ·match j,hx',hn' with
   |0,hx',hn'=>simp at hx' hn';subst hn';exact hk.elim
   |1,hx',hn'=>simp at hx' hn';subst hx';subst hn';exact (hf k hk).2
   |j+2,hx',_=>simp at hx'
  ·match j,hx',hn' with
   |0,hx',hn'=>simp at hx' hn';subst hn';exact hk.elim
   |1,hx',hn'=>
    simp at hx' hn';subst hx';subst hn'
    rcases (hf k (I.owns _ _ _ _ hk)).1 with h|h
    ·exact .inr (footE.2 ((hFF k).2 h))
    ·exact .inl h
   |j+2,hx',_=>simp at hx'
  ·match j1,j2,hn',hm',hij with
   |0,_,hn',_,_=>simp at hn';subst hn';exact hk1.elim
   |1,0,_,hm',_=>simp at hm';subst hm';exact hk2.elim
   |1,1,_,_,hij=>exact hij rfl
   |1,j+2,_,hm',_=>simp at hm'
   |j+2,_,hn',_,_=>simp at hn'
  ·match j,hx',hn' with
   |0,hx',hn'=>simp at hx' hn';subst hn';exact hk.elim
   |1,hx',hn'=>
    simp at hx' hn';subst hx';subst hn'
    rcases (hf k hk).1 with h|h
    ·obtain ⟨j,u',n,h1,h2,_,h4⟩:=(hFF k).2 h
     exact .inr (footO.2 ⟨j,u',n,h1,h2,h4.foot⟩)
    ·exact .inl h
   |j+2,hx',_=>simp at hx'
 have:=frame hM hn hb rfl hee h' (fun j x hj=>by
  have h1:=(zab.1 hj).1
  simp at h1
  subst h1
  simpa using hj) (by simp) (fun n hn'=>by
   simp at hn'
   rcases hn' with rfl|rfl
   ·exact fun e e' w u h=>h
   ·exact yf1 rfl) (fun j n hj=>.inl (by
   match j,hj with
   |0,hj=>simp at hj;subst hj;rfl
   |1,hj=>simp at hj;subst hj;rfl
   |j+2,hj=>simp at hj))
 exact this
def bitsP (mem:Mem (Th ξ)):PV→Option (List Bool×List Prop)
 |.obj i=>(match mem[i]? with
  |some ⟨.us (.bts l),_⟩=>some (l,[])
  |some ⟨.us (.own l),_⟩=>some (l.map (·==1),[∀ b∈l,b=0∨b=1])
  |_=>none)
 |_=>none
theorem bbs_of {l:List UInt8} (h:∀ b∈l,b=0∨b=1):bbs (l.map (·==1))=l:=by
 induction l with
 |nil=>rfl
 |cons b l ih=>
  have h1:=h b (zal ..)
  have ih:=ih fun c hc=>h c (zak _ hc)
  simp only [bbs,List.map_cons] at ih ⊢
  rw [ih]
  rcases h1 with rfl|rfl<;>rfl
theorem bitsP_is (hM:MemOk W0 G (thI J) w E MEM) {p:PV} {l:List Bool} {ps:List Prop} (h:bitsP MEM p=some (l,ps)) (hp:∀ q∈ps,q) {u:Value} (hu:p.is E u):Bs w u (bbs l):=by
 unfold bitsP at h
 split at h
 ·rename_i i
  split at h
  ·rename_i bl _ hm
   simp only [Option.some.injEq,Prod.mk.injEq] at h
   obtain ⟨rfl,rfl⟩:=h
   obtain ⟨B,_,hh⟩:=hM.holds i u _ hu hm
   rw [show bl.length=(bbs bl).length from (ycg bl).symm] at hh
   exact yi0 hh
  ·rename_i bl _ hm
   simp only [Option.some.injEq,Prod.mk.injEq] at h
   obtain ⟨rfl,rfl⟩:=h
   obtain ⟨B,_,hh⟩:=hM.holds i u _ hu hm
   rw [bbs_of (hp _ (zal ..))]
   exact yi0 hh
  ·cases h
 ·cases h
def intsP (mem:Mem (Th ξ)):PV→Option (List Int)
 |.obj i=>(match mem[i]? with
  |some ⟨.us (.ins l),_⟩=>some l
  |_=>none)
 |.v (.slice none 0 0)=>some []
 |_=>none
theorem intsP_is (hM:MemOk W0 G (thI J) w E MEM) {p:PV} {l:List Int} (h:intsP MEM p=some l) {u:Value} (hu:p.is E u):Is w u l:=by
 unfold intsP at h
 split at h
 ·rename_i i
  split at h
  ·rename_i bl _ hm
   simp only [Option.some.injEq] at h
   subst h
   obtain ⟨B,_,hh⟩:=hM.holds i u _ hu hm
   exact Rs.of_owns hh
  ·cases h
 ·simp only [Option.some.injEq] at h;subst h
  have hu':u=.slice none 0 0:=hu
  rw [hu'];exact Is.nil w
 ·cases h
def appT (hx:ξ→Bool) (t:TypeId) (us:List CV) (mem:Mem (Th ξ)):Option (List Prop×SV×Option (Mem (Th ξ))):=match us with
 |[.one (.obj i),.one q]=>(match mem[i]? with
  |some ⟨.us (.own l),true⟩=>(match eqb t 37,yd2 mem q with
   |true,some m=>some ([l.length+m.length≤1000000],.c (.one (.obj mem.length)),some (mem.set i ⟨.dead,true⟩++[⟨.us (.own (l++m)),true⟩]))
   |_,_=>none)
  |some ⟨.us (.bts l),true⟩=>(match eqb t 37,bitsP mem q with
   |true,some (m,ps)=>some ((l.length+m.length≤1000000)::ps,.c (.one (.obj mem.length)),some (mem.set i ⟨.dead,true⟩++[⟨.us (.bts (l++m)),true⟩]))
   |_,_=>none)
  |some ⟨.us (.ins l),true⟩=>(match eqb t 32,intsP mem q with
   |true,some m=>some ([l.length+m.length≤1000000],.c (.one (.obj mem.length)),some (mem.set i ⟨.dead,true⟩++[⟨.us (.ins (l++m)),true⟩]))
   |_,_=>none)
  |_=>none)
 |[.one (.v (.slice none 0 0)),.one (.obj j)]=>(match mem[j]? with
  |some ⟨.us (.own l),_⟩=>(match eqb t 37 with
   |true=>some ([l.length≤1000000],.c (.one (.obj mem.length)),some (mem++[⟨.us (.own l),true⟩]))
   |_=>none)
  |some ⟨.us (.bts l),_⟩=>(match eqb t 37 with
   |true=>some ([l.length≤1000000],.c (.one (.obj mem.length)),some (mem++[⟨.us (.bts l),true⟩]))
   |_=>none)
  |some ⟨.us (.ins l),_⟩=>(match eqb t 32 with
   |true=>some ([l.length≤1000000],.c (.one (.obj mem.length)),some (mem++[⟨.us (.ins l),true⟩]))
   |_=>none)
  |some ⟨.us (.byt l),_⟩=>(match eqb t 37 with
   |true=>some ([l.length≤1000000],.c (.one (.obj mem.length)),some (mem++[⟨.us (.own l),true⟩]))
   |_=>none)
  |some ⟨.us (.bal l),_⟩=>(match eqb t 37 with
   |true=>some ([l.length≤1000000],.c (.one (.obj mem.length)),some (mem++[⟨.us (.own l),true⟩]))
   |_=>none)
  |_=>none)
 |[.one (.v (.slice none 0 0)),.one (.sub j sz lo hi)]=>(match eqb t 37,yd2 mem (.sub j sz lo hi) with
  |true,some l=>some ([l.length≤1000000],.c (.one (.obj mem.length)),some (mem++[⟨.us (.own l),true⟩]))
  |_,_=>none)
 |_=>none
theorem etInt:ElemT Try.prog 32 3 1 8:=ElemT.mk' Try.underlying32 (z:=.int .i64 0) (by kernel_rfl) rfl (by decide)
theorem ylh {t e:TypeId} {bytes:Nat} (hE:ElemT Try.prog t e 1 bytes) (hby:bytes≤8) {b b':Th ξ} {u v:Value} {i n m:Nat} {xs news:List Value} (hM:MemOk W0 G (thI J) w E MEM) (hi:MEM[i]? =some ⟨.us b,true⟩) (hu:E[i]? =some u)
  (hown:∃ B,B≤w.heap.size∧w.ownsRow B e 1 u n xs) (hfo:∀ w u k,thOwn J b w u k↔u.ownBlock=some k) (hfo':∀ w u k,ycz J b' w u k↔u.ownBlock=some k) (hR:Rs w 1 v m news) (h1:∀ u∈news,u.oneCell'=true) (hl:n+m≤1000000)
  (hb':∀ w' v' B,B≤w'.heap.size→w'.ownsRow B e 1 v' (n+m) (xs++news)→ycy J b' w' v') (ty:TypeId):
  ∃ e' v' w',Grows E e'∧(Builtin.append_ #[t,t] ty [u,v].toArray).run Try.prog w=.ok v' w'∧(SV.c (.one (.obj MEM.length))).is e' v'∧MemOk W0 G (thI J) w' e' (MEM.set i ⟨.dead,true⟩++[⟨.us b',true⟩]):=by
 obtain ⟨B,hB,hown⟩:=hown
 obtain ⟨v',w',hr,q1,q2,q3⟩:=ygf (ty:=ty) hE hown hR h1 (by omega) (by
  have:(n+m) * bytes≤(n+m) * 8:=Nat.mul_le_mul_left _ hby
  omega) hB
 have hm:Mod (fun k=>thOwn J b w u k) w w':=(Mod.grown_row q2).mono fun k _ hk=>(hfo w u k).2 hk
 refine ⟨E++[v'],v',w',Grows.push E v',hr,?_,yti hM hi hu hm (hb' w' v' B (zbl hB hm.size) q1) fun k hk=>?_⟩
 ·show (E++[v'])[MEM.length]? =some v'
  rw [← hM.len,zac (zbm _)];simp
 ·have hk':=(hfo' w' v' k).1 hk
  refine ⟨?_,(yar q1 hk').2⟩
  rcases q3 with h|h
  ·exact .inl ((hfo w u k).2 (h▸hk'))
  ·rw [h] at hk';cases hk';exact .inr (zbm _)
theorem yip {t e:TypeId} {bytes:Nat} (hE:ElemT Try.prog t e 1 bytes) (hby:bytes≤8) {b':Th ξ} {v:Value} {m:Nat} {news:List Value} (hM:MemOk W0 G (thI J) w E MEM)
  (hfo':∀ w u k,ycz J b' w u k↔u.ownBlock=some k) (hR:Rs w 1 v m news) (h1:∀ u∈news,u.oneCell'=true) (hl:m≤1000000)
  (hb':∀ w' v' B,B≤w'.heap.size→w'.ownsRow B e 1 v' m news→ycy J b' w' v') (ty:TypeId):
  ∃ e' v' w',Grows E e'∧(Builtin.append_ #[t,t] ty [nilV,v].toArray).run Try.prog w=.ok v' w'∧(SV.c (.one (.obj MEM.length))).is e' v'∧MemOk W0 G (thI J) w' e' (MEM++[⟨.us b',true⟩]):=by
 obtain ⟨v',w',hr,q1,q2,q3⟩:=ygf (ty:=ty) hE (yj7 w w.heap.size e 1) hR h1 (by omega) (by
  have:(0+m) * bytes≤(0+m) * 8:=Nat.mul_le_mul_left _ hby
  omega) (zbm _)
 rw [zbo,List.nil_append] at q1
 have hext:Ext w w':=(Mod.grown_row q2).mono fun k _ hk=>by cases hk
 refine ⟨E++[v'],v',w',Grows.push E v',hr,?_,hM.push hext v' ⟨.us b',true⟩ (hb' w' v' w.heap.size hext.size q1) fun k hk=>?_⟩
 ·show (E++[v'])[MEM.length]? =some v'
  rw [← hM.len,zac (zbm _)];simp
 ·exact yar q1 ((hfo' w' v' k).1 hk)
theorem appT_ok (t:TypeId) (args:List CV) (mem:Mem (Th ξ)) (ps:List Prop) (r:SV) (m':Mem (Th ξ)) (h:appT hx t args mem=some (ps,r,some m')) (hp:∀ p∈ps,p) (ty:TypeId) (w:World) (e:Env) (us:List Value) (hM:MemOk W0 G (thI J) w e mem) (ha:AllC e args us):
  ∃ e' v w',Grows e e'∧(Builtin.append_ #[t,t] ty us.toArray).run Try.prog w=.ok v w'∧r.is e' v∧MemOk W0 G (thI J) w' e' m':=by
 unfold appT at h
 split at h
 ·rename_i i q
  obtain ⟨u0,u1,rfl,a0,a1⟩:=ygx ha
  have hu:e[i]? =some u0:=a0
  split at h
  ·rename_i l hm
   split at h
   ·rename_i m ht hb
    have ht:=eqb_eq.1 ht
    subst ht
    simp only [Option.some.injEq,Prod.mk.injEq] at h
    obtain ⟨rfl,rfl,rfl⟩:=h
    have hl:=hp _ (zal ..)
    have hbs:=yc4 hM hb (yau a1)
    exact ylh ydp (by decide) hM hm hu (hM.holds i u0 _ hu hm) (fun _ _ _=>Iff.rfl) (b':=.own (l++m)) (fun _ _ _=>Iff.rfl) hbs (yb3 m) hl (fun w' v' B hB hh=>⟨B,hB,by rw [zae,zba];exact hh⟩) ty
   ·cases h
  ·rename_i l hm
   split at h
   ·rename_i m ps' ht hb
    have ht:=eqb_eq.1 ht
    subst ht
    simp only [Option.some.injEq,Prod.mk.injEq] at h
    obtain ⟨rfl,rfl,rfl⟩:=h
    have hl:=hp _ (zal ..)
    have hbs:=bitsP_is hM hb (fun q hq=>hp q (zak _ hq)) (yau a1)
    unfold Bs at hbs
    rw [ycg] at hbs
    exact ylh ydp (by decide) hM hm hu (hM.holds i u0 _ hu hm) (fun _ _ _=>Iff.rfl) (b':=.bts (l++m)) (fun _ _ _=>Iff.rfl) hbs (yb3 _) hl (fun w' v' B hB hh=>⟨B,hB,by rw [zae,yin,zba];exact hh⟩) ty
   ·cases h
  ·rename_i l hm
   split at h
   ·rename_i m ht hb
    have ht:=eqb_eq.1 ht
    subst ht
    simp only [Option.some.injEq,Prod.mk.injEq] at h
    obtain ⟨rfl,rfl,rfl⟩:=h
    have hl:=hp _ (zal ..)
    have hbs:=intsP_is hM hb (yau a1)
    exact ylh etInt (by decide) hM hm hu (hM.holds i u0 _ hu hm) (fun _ _ _=>Iff.rfl) (b':=.ins (l++m)) (fun _ _ _=>Iff.rfl) hbs (yl5 m) hl (fun w' v' B hB hh=>⟨B,hB,by rw [zae,zba];exact hh⟩) ty
   ·cases h
  ·cases h
 ·rename_i j
  obtain ⟨u0,u1,rfl,a0,a1⟩:=ygx ha
  have hu:e[j]? =some u1:=a1
  have hu0:u0=nilV:=a0
  subst hu0
  split at h
  ·rename_i l _ hm
   split at h
   ·rename_i ht
    have ht:=eqb_eq.1 ht
    subst ht
    simp only [Option.some.injEq,Prod.mk.injEq] at h
    obtain ⟨rfl,rfl,rfl⟩:=h
    have hl:=hp _ (zal ..)
    obtain ⟨B,_,hh⟩:=hM.holds j u1 _ hu hm
    exact yip ydp (by decide) hM (b':=.own l) (fun _ _ _=>Iff.rfl) (yi0 hh) (yb3 l) hl (fun w' v' B hB hh=>⟨B,hB,hh⟩) ty
   ·cases h
  ·rename_i l _ hm
   split at h
   ·rename_i ht
    have ht:=eqb_eq.1 ht
    subst ht
    simp only [Option.some.injEq,Prod.mk.injEq] at h
    obtain ⟨rfl,rfl,rfl⟩:=h
    have hl:=hp _ (zal ..)
    obtain ⟨B,_,hh⟩:=hM.holds j u1 _ hu hm
    exact yip ydp (by decide) hM (b':=.bts l) (fun _ _ _=>Iff.rfl) (Rs.of_owns hh) (yb3 _) hl (fun w' v' B hB hh=>⟨B,hB,hh⟩) ty
   ·cases h
  ·rename_i l _ hm
   split at h
   ·rename_i ht
    have ht:=eqb_eq.1 ht
    subst ht
    simp only [Option.some.injEq,Prod.mk.injEq] at h
    obtain ⟨rfl,rfl,rfl⟩:=h
    have hl:=hp _ (zal ..)
    obtain ⟨B,_,hh⟩:=hM.holds j u1 _ hu hm
    exact yip etInt (by decide) hM (b':=.ins l) (fun _ _ _=>Iff.rfl) (Rs.of_owns hh) (yl5 l) hl (fun w' v' B hB hh=>⟨B,hB,hh⟩) ty
   ·cases h
  ·rename_i l _ hm
   split at h
   ·rename_i ht
    have ht:=eqb_eq.1 ht
    subst ht
    simp only [Option.some.injEq,Prod.mk.injEq] at h
    obtain ⟨rfl,rfl,rfl⟩:=h
    have hl:=hp _ (zal ..)
    have hh:Bs w u1 l:=hM.holds j u1 _ hu hm
    exact yip ydp (by decide) hM (b':=.own l) (fun _ _ _=>Iff.rfl) hh (yb3 l) hl (fun w' v' B hB hh=>⟨B,hB,by rw [← zbd (f:=bv)] at hh;simpa using hh⟩) ty
   ·cases h
  ·rename_i l _ hm
   split at h
   ·rename_i ht
    have ht:=eqb_eq.1 ht
    subst ht
    simp only [Option.some.injEq,Prod.mk.injEq] at h
    obtain ⟨rfl,rfl,rfl⟩:=h
    have hl:=hp _ (zal ..)
    have hh:Bs w u1 l:=bs_bal (J:=J) (hM.holds j u1 _ hu hm)
    exact yip ydp (by decide) hM (b':=.own l) (fun _ _ _=>Iff.rfl) hh (yb3 l) hl (fun w' v' B hB hh=>⟨B,hB,by rw [← zbd (f:=bv)] at hh;simpa using hh⟩) ty
   ·cases h
  ·cases h
 ·rename_i j sz lo hi
  obtain ⟨u0,u1,rfl,a0,a1⟩:=ygx ha
  have hu0:u0=.slice none 0 0:=yau a0
  subst hu0
  split at h
  ·rename_i l ht hb
   have ht:=eqb_eq.1 ht
   subst ht
   simp only [Option.some.injEq,Prod.mk.injEq] at h
   obtain ⟨rfl,rfl,rfl⟩:=h
   have hl:=hp _ (zal ..)
   have hh:Bs w u1 l:=yc4 hM hb (yau a1)
   exact yip ydp (by decide) hM (b':=.own l) (fun _ _ _=>Iff.rfl) hh (yb3 l) hl (fun w' v' B hB hh=>⟨B,hB,by rw [← zbd (f:=bv)] at hh;simpa using hh⟩) ty
  ·cases h
 ·cases h
end
end Go.Proofs.Ytiiekgcjilelpaa
