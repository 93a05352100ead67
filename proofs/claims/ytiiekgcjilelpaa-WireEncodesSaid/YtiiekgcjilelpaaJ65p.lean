/- J7 JMRd RdA J64 J65. -/
import Derived.Test.YtiiekgcjilelpaaJ6p
import Derived.Test.YtiiekgcjilelpaaJ2p
import Derived.Test.YtiiekgcjilelpaaJM17p
import Derived.Test.YtiiekgcjilelpaaOpenp
import Derived.Test.YtiiekgcjilelpaaJ5p
open List renaming getElem?_eq_getElem → zaa, getElem?_append_right → zac, getElem?_append_left → zad, mem_map → zbf
set_option maxRecDepth 100000
set_option linter.unusedSimpArgs false
set_option linter.unusedVariables false
namespace Go.Proofs.Ytiiekgcjilelpaa
open Go.RowKit
theorem lv17_w0  :∃ qs,wayO Id' ([]:Mem Td).length [] (svV (.bool true)) ((ybu (⟨Try.prog,[(34,ctrF Id' ymv yaj),(38,ctrF Id' (wkC yvc) yaj)],[E_of Try.prog 29],dkHo,Id'.one,60⟩:Sy Td) [] Try.f36 [] []).al [])=some qs∧∀ q∈qs,q:=
 ⟨[false=false,(0:Int)≤(1:Int)∧(1:Int)<(18446744073709551616:Int),(0:Int)≤(0:Int)∧(0:Int)<(18446744073709551616:Int),(0:Int)≤(1:Int)∧(1:Int)<(18446744073709551616:Int),true=true,false=false,(fiW (hdW (3:Int) (0:Int) (1:Int) (0:Int) (1:Int) (0:Int) (0:Int)) (2:Int) (1:Int)).out.length≤(100000:Nat),true=true,false=false,(0:Int)≤hSs (RS.new (fiW (hdW (3:Int) (0:Int) (1:Int) (0:Int) (1:Int) (0:Int) (0:Int)) (2:Int) (1:Int)).out)∧hSs (RS.new (fiW (hdW (3:Int) (0:Int) (1:Int) (0:Int) (1:Int) (0:Int) (0:Int)) (2:Int) (1:Int)).out)<(18446744073709551616:Int),(0:Int)≤hSq (RS.new (fiW (hdW (3:Int) (0:Int) (1:Int) (0:Int) (1:Int) (0:Int) (0:Int)) (2:Int) (1:Int)).out)∧hSq (RS.new (fiW (hdW (3:Int) (0:Int) (1:Int) (0:Int) (1:Int) (0:Int) (0:Int)) (2:Int) (1:Int)).out)<(18446744073709551616:Int),(0:Int)≤hBo (RS.new (fiW (hdW (3:Int) (0:Int) (1:Int) (0:Int) (1:Int) (0:Int) (0:Int)) (2:Int) (1:Int)).out)∧hBo (RS.new (fiW (hdW (3:Int) (0:Int) (1:Int) (0:Int) (1:Int) (0:Int) (0:Int)) (2:Int) (1:Int)).out)<(18446744073709551616:Int),false=false,(En.mk (Ob.us (Th.own (fiW (hdW 3 0 1 0 1 0 0) 2 1).out)) true:En Td)=En.mk (Ob.us (Th.own (fiW (hdW 3 0 1 0 1 0 0) 2 1).out)) true,Value.bool true=Value.bool true],by kernel_rfl,(by repeat' first|exact mnil|refine yaa ?_ ?_| (with_reducible rfl)|(decide +kernel))⟩
def yva:Ctr Td:=fun us sub=>match us,sub with
 |[],[]=>some ([],svV (.bool true),[])
 |_,_=>none
theorem C_lv17_ok:CtrOk Try.prog Id' 36 yva:=by
 intro us sub ps x sm h hp w e vs hM ha
 unfold yva at h
 split at h
 ·skip
  simp only [Option.some.injEq,Prod.mk.injEq] at h
  obtain ⟨rfl,rfl,rfl⟩:=h
  exact ya6 (I:=Id') (fun (W0:World) (G:Nat→Prop)=>SyOk.mk2 Try.mixed yal (FnsR.cons (R_encR) (FnsR.cons (RW_decR) (FnsR.nil))) (E_of_ok (by kernel_rfl) (EqsOk.nil))) rfl Try.func36 (by kernel_rfl) (fun W0 G=>LpsOk.nil _) (cs:=[]) (by kernel_rfl) (lv17_w0  ) w e vs hM ha
 ·cases h
theorem R_lv17:RowOk Try.prog Id' yaj 36 (ctrF Id' yva yaj):=ydi Try.call36 C_lv17_ok
end Go.Proofs.Ytiiekgcjilelpaa
namespace Go.Proofs.Ytiiekgcjilelpaa
open Go.RowKit Go.ChangeShapes Go.WideShapes Go.ChangeAt
namespace Mm
section
variable {H:Type} {enc:TypeId×Value→H} {W:World}
theorem yj5 {cs:List Value} {fuel:Nat} {x:DataW H×List MemPlace} (hl:cs.length=2) (h:DataW.trod enc Try.prog W 0 (fun _=>true) true fuel 29 cs=some x):
  ∃ a b:Int,cs=[.int .i64 a,.int .i64 b]:=by
 obtain ⟨c0,c1,rfl⟩:∃ a b,cs=[a,b]:=by
  match cs,hl with
  |[a,b],_=>exact ⟨a,b,rfl⟩
 obtain ⟨xs,n,_,_,_,hx,hf⟩:=DataW.trod_struct Try.underlying29 h
 have hx4:xs.length=2:=hx
 have f0:=hf 0 _ rfl
 have f1:=hf 1 _ rfl
 rw [zaa (by omega)] at f0 f1
 obtain ⟨k,e0,_,_⟩:=DataW.trod_int Try.underlying3 f0
 obtain ⟨t,e1,_,_⟩:=DataW.trod_int Try.underlying3 f1
 have ci:Try.prog.cellsOf 3=1:=by kernel_rfl
 have g0:c0=.int .i64 k:=by simpa [ci] using e0
 have g1:c1=.int .i64 t:=by simpa [ci] using e1
 exact ⟨k,t,by rw [g0,g1]⟩
theorem read_ent {cs:List Value} {fuel:Nat} {x:DataW H×List MemPlace} (hl:cs.length=4) (h:DataW.trod enc Try.prog W 0 (fun _=>true) true fuel 129 cs=some x):
  ∃ d:Ent,cs=d.cells:=by
 obtain ⟨c0,c1,c2,c3,rfl⟩:∃ a b c e,cs=[a,b,c,e]:=by
  match cs,hl with
  |[a,b,c,e],_=>exact ⟨a,b,c,e,rfl⟩
 obtain ⟨xs,n,_,_,_,hx,hf⟩:=DataW.trod_struct Try.underlying129 h
 have hx4:xs.length=3:=hx
 have f0:=hf 0 _ rfl
 have f1:=hf 1 _ rfl
 have f2:=hf 2 _ rfl
 rw [zaa (by omega)] at f0 f1 f2
 have ci:Try.prog.cellsOf 3=1:=by kernel_rfl
 have cf:Try.prog.cellsOf 29=2:=by kernel_rfl
 have cz:Try.prog.cellsOf 9=1:=by kernel_rfl
 obtain ⟨s,e0,_⟩:=DataW.trod_string Try.underlying9 f0
 obtain ⟨a,b,e1⟩:=yj5 (by simp [cf]) f1
 obtain ⟨k,e2,_,_⟩:=DataW.trod_int Try.underlying3 f2
 have g0:c0=.string s:=by simpa [cz] using e0
 have g1:c1=.int .i64 a∧c2=.int .i64 b:=by simpa [cf] using e1
 have g2:c3=.int .i64 k:=by simpa [ci] using e2
 exact ⟨⟨s,a,b,k⟩,by rw [g0,g1.1,g1.2,g2];rfl⟩
theorem read_es {cs:List Value} {fuel:Nat} {x:DataW H×List MemPlace} (h:DataW.trod enc Try.prog W 0 (fun _=>true) true fuel 60 cs=some x):∃ v l,cs=[v]∧Es W v l:=by
 obtain ⟨ao,len,cap,rfl,h1,h2,h3,h4⟩:=yvn (c:=4) Try.underlying60 (by kernel_rfl) (by decide) h
 obtain ⟨ds,hl,hd⟩:=yl8 (p:=fun i (d:Ent)=>∃ b o,ao=some ⟨b,o,none⟩∧∀ j,j<4→W.cell? ⟨b,o+i * 4+j,none⟩=d.cells[j]?) len fun i hi=>by
  obtain ⟨b,o,cs',f,y,e1,e2,e3,e4⟩:=h4 i hi
  obtain ⟨d,rfl⟩:=read_ent e2 e4
  exact ⟨d,b,o,e1,e3⟩
 have at':∀ i,i<len→∃ b o,ao=some ⟨b,o,none⟩∧∀ j,j<4→W.cell? ⟨b,o+i * 4+j,none⟩=(entAt ds i).cells[j]? :=fun i hi=>by
  refine hd i (entAt ds i) ?_
  rw [entAt,List.getD_eq_getElem?_getD,zaa (by omega)];rfl
 refine ⟨_,ds,rfl,ao,cap,by rw [show (entKS ds).n=len from hl],by rw [show (entKS ds).n=len from hl];exact h1,h2,h3,fun a ha=>⟨fun hn=>?_,fun i hi j p hp=>?_⟩⟩
 ·obtain ⟨b,o,e,_⟩:=at' 0 (by have:(entKS ds).n=len:=hl;omega)
  rw [ha] at e;cases e;rfl
 ·obtain ⟨b,o,e,hc⟩:=at' i (by have:(entKS ds).n=len:=hl;omega)
  rw [ha] at e;cases e
  simp only [entKS] at hp
  match j,hp with
  |0,hp=>simp at hp;subst hp;exact ⟨_,hc 0 (by decide),rfl⟩
  |1,hp=>simp at hp;subst hp;exact ⟨_,(by have:=hc 1 (by decide);rwa [Nat.add_assoc] at this),rfl⟩
  |2,hp=>simp at hp;subst hp;exact ⟨_,(by have:=hc 2 (by decide);rwa [Nat.add_assoc] at this),rfl⟩
  |3,hp=>simp at hp;subst hp;exact ⟨_,(by have:=hc 3 (by decide);rwa [Nat.add_assoc] at this),rfl⟩
  |j+4,hp=>simp at hp
def U6 (x:Int):Prop:=0≤x∧x<18446744073709551616
theorem u6 {x:Int} (h:0≤x∧x≤18446744073709551615):U6 x:=by unfold U6;omega
def MsgIn (W:World) (d:Msg×Value):Prop:=Es W d.2 d.1.en∧U6 d.1.ss∧U6 d.1.sq∧U6 d.1.bo∧U6 d.1.ve
theorem msgIn_mk {W:World} {d:Msg×Value} (h:Es W d.2 d.1.en) (h1:U6 d.1.ss) (h2:U6 d.1.sq) (h3:U6 d.1.bo) (h4:U6 d.1.ve):MsgIn W d:=⟨h,h1,h2,h3,h4⟩
def Msg.vals (m:Msg) (v:Value):List Value:=[.int .i64 m.ty,.int .i64 m.cl,.int .u64 m.ss,.int .u64 m.sq,.int .u64 m.bo,.int .i64 m.kd,.int .i64 m.er,.int .i64 m.f1,.int .i64 m.f2,.int .i64 m.d1,.int .i64 m.d2,.string m.nm,.string m.ot,.int .i64 m.mo,.int .i64 m.pl,.string m.da,.int .u64 m.ve,v]
theorem read_msg {base:Nat} {v:Value} {fuel:Nat} {x:DataW H×List MemPlace} (hv:Value.okWide Try.prog W .any base 62 v) (h:DataW.trod enc Try.prog W 0 (fun _=>true) true fuel 62 v.cells.toList=some x):
  ∃ d:Msg×Value,v=.agg (d.1.vals d.2).toArray∧MsgIn W d:=by
 obtain ⟨csA,rfl,hs⟩:=okWide_struct Try.underlying62 hv
 have h18:Try.prog.cellsOf 62=18:=by kernel_rfl
 obtain ⟨cs,rfl⟩:∃ cs:List Value,csA=cs.toArray:=⟨csA.toList,by simp⟩
 have hl:cs.length=18:=by rw [h18] at hs;simpa using hs
 replace h:DataW.trod enc Try.prog W 0 (fun _=>true) true fuel 62 cs=some x:=h
 obtain ⟨c0,c1,c2,c3,c4,c5,c6,c7,c8,c9,c10,c11,c12,c13,c14,c15,c16,c17,rfl⟩:∃ c0 c1 c2 c3 c4 c5 c6 c7 c8 c9 c10 c11 c12 c13 c14 c15 c16 c17,cs=[c0,c1,c2,c3,c4,c5,c6,c7,c8,c9,c10,c11,c12,c13,c14,c15,c16,c17]:=by
  match cs,hl with
  |[c0,c1,c2,c3,c4,c5,c6,c7,c8,c9,c10,c11,c12,c13,c14,c15,c16,c17],_=>exact ⟨c0,c1,c2,c3,c4,c5,c6,c7,c8,c9,c10,c11,c12,c13,c14,c15,c16,c17,rfl⟩
 obtain ⟨xs,n,_,_,_,hx,hf⟩:=DataW.trod_struct Try.underlying62 h
 have hx4:xs.length=16:=hx
 have z0:Try.prog.cellsOf 60=1:=by kernel_rfl
 have z1:Try.prog.cellsOf 26=1:=by kernel_rfl
 have z2:Try.prog.cellsOf 29=2:=by kernel_rfl
 have z3:Try.prog.cellsOf 3=1:=by kernel_rfl
 have z4:Try.prog.cellsOf 9=1:=by kernel_rfl
 have z5:Try.prog.cellsOf 59=1:=by kernel_rfl
 have f0:=hf 0 _ rfl
 have f1:=hf 1 _ rfl
 have f2:=hf 2 _ rfl
 have f3:=hf 3 _ rfl
 have f4:=hf 4 _ rfl
 have f5:=hf 5 _ rfl
 have f6:=hf 6 _ rfl
 have f7:=hf 7 _ rfl
 have f8:=hf 8 _ rfl
 have f9:=hf 9 _ rfl
 have f10:=hf 10 _ rfl
 have f11:=hf 11 _ rfl
 have f12:=hf 12 _ rfl
 have f13:=hf 13 _ rfl
 have f14:=hf 14 _ rfl
 have f15:=hf 15 _ rfl
 rw [zaa (by omega)] at f0 f1 f2 f3 f4 f5 f6 f7 f8 f9 f10 f11 f12 f13 f14 f15
 obtain ⟨x0,e0,_,_⟩:=DataW.trod_int Try.underlying3 f0
 have g0:c0=.int .i64 x0:=by simpa [z3] using e0
 obtain ⟨x1,e1,_,_⟩:=DataW.trod_int Try.underlying3 f1
 have g1:c1=.int .i64 x1:=by simpa [z3] using e1
 obtain ⟨x2,e2,_,w2⟩:=DataW.trod_int Try.underlying59 f2
 have g2:c2=.int .u64 x2:=by simpa [z5] using e2
 obtain ⟨x3,e3,_,w3⟩:=DataW.trod_int Try.underlying59 f3
 have g3:c3=.int .u64 x3:=by simpa [z5] using e3
 obtain ⟨x4,e4,_,w4⟩:=DataW.trod_int Try.underlying59 f4
 have g4:c4=.int .u64 x4:=by simpa [z5] using e4
 obtain ⟨x5,e5,_,_⟩:=DataW.trod_int Try.underlying3 f5
 have g5:c5=.int .i64 x5:=by simpa [z3] using e5
 obtain ⟨x6,e6,_,_⟩:=DataW.trod_int Try.underlying26 f6
 have g6:c6=.int .i64 x6:=by simpa [z1] using e6
 obtain ⟨x7,y7,e7⟩:=yj5 (by simp [z2]) f7
 have g7:c7=.int .i64 x7∧c8=.int .i64 y7:=by simpa [z2] using e7
 obtain ⟨x8,y8,e8⟩:=yj5 (by simp [z2]) f8
 have g8:c9=.int .i64 x8∧c10=.int .i64 y8:=by simpa [z2] using e8
 obtain ⟨x9,e9,_⟩:=DataW.trod_string Try.underlying9 f9
 have g9:c11=.string x9:=by simpa [z4] using e9
 obtain ⟨x10,e10,_⟩:=DataW.trod_string Try.underlying9 f10
 have g10:c12=.string x10:=by simpa [z4] using e10
 obtain ⟨x11,e11,_,_⟩:=DataW.trod_int Try.underlying3 f11
 have g11:c13=.int .i64 x11:=by simpa [z3] using e11
 obtain ⟨x12,e12,_,_⟩:=DataW.trod_int Try.underlying3 f12
 have g12:c14=.int .i64 x12:=by simpa [z3] using e12
 obtain ⟨x13,e13,_⟩:=DataW.trod_string Try.underlying9 f13
 have g13:c15=.string x13:=by simpa [z4] using e13
 obtain ⟨x14,e14,_,w14⟩:=DataW.trod_int Try.underlying59 f14
 have g14:c16=.int .u64 x14:=by simpa [z5] using e14
 obtain ⟨x15,l,e15,hE⟩:=read_es f15
 have g15:c17=x15:=by simpa [z0] using e15
 refine ⟨(⟨x0,x1,x2,x3,x4,x5,x6,x7,y7,x8,y8,x9,x10,x11,x12,x13,x14,l⟩,x15),?_,msgIn_mk hE (u6 (yta w2)) (u6 (yta w3)) (u6 (yta w4)) (u6 (yta w14))⟩
 rw [g0,g1,g2,g3,g4,g5,g6,g7.1,g7.2,g8.1,g8.2,g9,g10,g11,g12,g13,g14,g15]
 rfl
end
end Mm
end Go.Proofs.Ytiiekgcjilelpaa
namespace Go.Proofs.Ytiiekgcjilelpaa
open Go.RowKit
theorem argsR_us {w:World} {e:Env} {mem:Mem Td} (h:MemOk w (ybc Id' w e mem) Id' w e mem) (hro:∀ n∈mem,n.mu=false) {u:Value} {b:Td} (hb:Id'.holds b w u) (hlt:∀ k,Id'.foot b w u k→k<w.heap.size):MemOk w (ybc Id' w (e++[u]) (mem++[⟨.us b,false⟩])) Id' w (e++[u]) (mem++[⟨.us b,false⟩]):=by
 have hget:∀ (i:Nat) (v:Value) (n:En Td),(e++[u])[i]? =some v→(mem++[⟨.us b,false⟩])[i]? =some n→(e[i]? =some v∧mem[i]? =some n)∨(v=u∧n=⟨.us b,false⟩):=fun i v n hv hn=>by
  have hl:=h.len
  rcases Nat.lt_or_ge i e.length with hi|hi
  ·rw [zad hi] at hv
   rw [zad (by omega)] at hn
   exact .inl ⟨hv,hn⟩
  ·rw [zac hi] at hv
   rw [zac (by omega)] at hn
   rw [hl] at hv
   cases hq:i - mem.length with
   |zero=>rw [hq] at hv hn;simp at hv hn;exact .inr ⟨hv.symm,hn.symm⟩
   |succ q=>rw [hq] at hv;simp at hv
 have hmu:∀ (i:Nat) (v:Value) (n:En Td),(e++[u])[i]? =some v→(mem++[⟨.us b,false⟩])[i]? =some n→n.mu=false:=fun i v n hv hn=>by
  rcases hget i v n hv hn with ⟨_,h2⟩|⟨_,rfl⟩
  ·exact hro n (List.mem_of_getElem? h2)
  ·rfl
 refine ⟨by simp [h.len],fun i v n hv hn=>?_,fun i v n hv hn k hk=>?_,fun i v n hv hn hm=>?_,fun i j v x n m hv hn hm=>?_,Mod.refl _ w,fun i v n hv hn k hk=>.inr (footO.2 ⟨i,v,n,hv,hn,hk⟩)⟩
 ·rcases hget i v n hv hn with ⟨h1,h2⟩|⟨rfl,rfl⟩
  ·exact (h.holds i v n h1 h2).mono (Grows.push e u)
  ·exact hb
 ·rcases hget i v n hv hn with ⟨h1,h2⟩|⟨rfl,rfl⟩
  ·exact h.lt i v n h1 h2 k hk
  ·exact hlt k hk
 ·rw [hmu i v n hv hn] at hm;cases hm
 ·rw [hmu i v n hv hn] at hm;cases hm
theorem rsR_lt {w:World} {sz n:Nat} {u:Value} {vals:List Value} (h:Rs w sz u n vals) (hn:n≠0) (hs:0<sz) {k:Nat} (hk:u.ownBlock=some k):k<w.heap.size:=by
 obtain ⟨hl,ao,cap,rfl,h2,h3,h4,h5⟩:=h
 cases ao with
 |none=>cases hk
 |some a=>
  have hlt:0<vals.length:=by rw [hl];exact Nat.mul_pos (by omega) hs
  have:=h5 a rfl 0 _ (zaa hlt)
  have hb:=World.block_lt_of_cell? w _ this
  rw [ygc] at hb
  cases hk
  exact hb
theorem vwR_lt {w:World} {u:Value} {ks:List Bool} {R:List Rw} (h:yfi (.vw ks R) w u):∀ k,Id'.foot (.ext (.vw ks R)) w u k→k<w.heap.size:=fun k ⟨h1,h2⟩=>rsR_lt h.2 (fun e=>h1 (List.eq_nil_of_length_eq_zero e)) h.1 h2
theorem we17_w0 (R:List Rw) (ty cl ss sq bo kd er f1 f2 d1 d2:Int) (nm ot:ByteArray) (mo pl:Int) (da:ByteArray) (ve:Int) (o:List UInt8) (eo:Int) (h0:encE (⟨ty,cl,ss,sq,bo,kd,er,f1,f2,d1,d2,Mm.shortS nm 20,Mm.shortS ot 20,mo,pl,Mm.shortS da 70,ve,shR R⟩:MQ)=(o,eo)) (h1:0≤ss∧ss<18446744073709551616) (h2:0≤sq∧sq<18446744073709551616) (h3:0≤bo∧bo<18446744073709551616) (h4:(Mm.shortS nm 20).size≤60000) (h5:(Mm.shortS ot 20).size≤60000) (h6:(Mm.shortS da 70).size≤60000) (h7:0≤ve∧ve<18446744073709551616) (h8:RowsZ (shR R)) (h9:(decide (o=o)&&eo==eo)=true):∃ qs,wayO Id' ([⟨.us (.ext (.vw [true,false,false,false] R)),false⟩]:Mem Td).length [⟨.us (.ext (.vw [true,false,false,false] R)),false⟩] (svV (.bool true)) ((ybu (⟨Try.prog,[(33,ctrF Id' C_msh yaj),(34,ctrF Id' (yvb o eo) yaj),(35,ctrF Id' (yol o eo) yaj),(ylk:Nat×Fn2 Td),(36,ctrF Id' yva yaj)],[],dkHo,Id'.one,60⟩:Sy Td) [] Try.f7 [.agg [.v (.int .i64 ty),.v (.int .i64 cl),.v (.int .u64 ss),.v (.int .u64 sq),.v (.int .u64 bo),.v (.int .i64 kd),.v (.int .i64 er),.v (.int .i64 f1),.v (.int .i64 f2),.v (.int .i64 d1),.v (.int .i64 d2),.v (.string nm),.v (.string ot),.v (.int .i64 mo),.v (.int .i64 pl),.v (.string da),.v (.int .u64 ve),.obj 0]] [⟨.us (.ext (.vw [true,false,false,false] R)),false⟩]).al [true])=some qs∧∀ q∈qs,q:=
 ⟨[encE (MQ.mk ty cl ss sq bo kd er f1 f2 d1 d2 (Mm.shortS nm (20:Nat)) (Mm.shortS ot (20:Nat)) mo pl (Mm.shortS da (70:Nat)) ve (shR R))=(o,eo),(0:Int)≤ss∧ss<(18446744073709551616:Int),(0:Int)≤sq∧sq<(18446744073709551616:Int),(0:Int)≤bo∧bo<(18446744073709551616:Int),(Mm.shortS nm (20:Nat)).size≤(60000:Nat),(Mm.shortS ot (20:Nat)).size≤(60000:Nat),(Mm.shortS da (70:Nat)).size≤(60000:Nat),(0:Int)≤ve∧ve<(18446744073709551616:Int),RowsZ (shR R),encE (MQ.mk ty cl ss sq bo kd er f1 f2 d1 d2 (Mm.shortS nm (20:Nat)) (Mm.shortS ot (20:Nat)) mo pl (Mm.shortS da (70:Nat)) ve (shR R))=(o,eo),(0:Int)≤ss∧ss<(18446744073709551616:Int),(0:Int)≤sq∧sq<(18446744073709551616:Int),(0:Int)≤bo∧bo<(18446744073709551616:Int),(Mm.shortS nm (20:Nat)).size≤(60000:Nat),(Mm.shortS ot (20:Nat)).size≤(60000:Nat),(Mm.shortS da (70:Nat)).size≤(60000:Nat),(0:Int)≤ve∧ve<(18446744073709551616:Int),RowsZ (shR R),(decide (o=o)&&eo==eo)=true,(decide (o=o)&&eo==eo)=true,(Th.ext (Dk.vw [true,false,false,false] R):Td)=Th.ext (Dk.vw [true,false,false,false] R),Value.bool true=Value.bool true],by kernel_rfl,(by repeat' first|exact mnil|refine yaa ?_ ?_| (with_reducible assumption)|(with_reducible rfl)|rfl|exact h0|exact h1|exact h2|exact h3|exact h4|exact h5|exact h6|exact h7|exact h8|exact h9|trivial)⟩
theorem yjb (s:ByteArray) (n:Nat) (hn:n≤60000):(Mm.shortS s n).size≤60000:=by
 unfold Mm.shortS
 split
 ·rw [ByteArray.size_extract];omega
 ·omega
theorem sh_rows (R:List Rw):RowsZ (shR R):=fun r hr=>by
 obtain ⟨d,hd,rfl⟩:=zbf.1 hr
 unfold Mm.shortL at hd
 obtain ⟨d',_,rfl⟩:=zbf.1 hd
 exact yjb d'.nm 20 (by decide)
theorem ymx (R:List Rw) (ty cl ss sq bo kd er f1 f2 d1 d2:Int) (nm ot:ByteArray) (mo pl:Int) (da:ByteArray) (ve:Int) (w:World) (u:Value) (hu:yfi (.vw [true,false,false,false] R) w u) (h1:Mm.U6 ss) (h2:Mm.U6 sq) (h3:Mm.U6 bo) (h4:Mm.U6 ve):
  Calls Try.prog 7 #[.agg #[.int .i64 ty,.int .i64 cl,.int .u64 ss,.int .u64 sq,.int .u64 bo,.int .i64 kd,.int .i64 er,.int .i64 f1,.int .i64 f2,.int .i64 d1,.int .i64 d2,.string nm,.string ot,.int .i64 mo,.int .i64 pl,.string da,.int .u64 ve,u]] w (fun y w'=>y=.returned (.bool true)∧Below w.heap.size w w'):=by
 obtain ⟨o,eo,he⟩:∃ o eo,encE (⟨ty,cl,ss,sq,bo,kd,er,f1,f2,d1,d2,Mm.shortS nm 20,Mm.shortS ot 20,mo,pl,Mm.shortS da 70,ve,shR R⟩:MQ)=(o,eo):=⟨_,_,rfl⟩
 have hM0:=yur Id' w
 have hM:MemOk w (ybc Id' w [u] [⟨.us (.ext (.vw [true,false,false,false] R)),false⟩]) Id' w [u] [⟨.us (.ext (.vw [true,false,false,false] R)),false⟩]:=argsR_us hM0 (fun n hn=>by cases hn) (b:=.ext (.vw [true,false,false,false] R)) (u:=u) hu (vwR_lt hu)
 have hA:AllC [u] [.agg [.v (.int .i64 ty),.v (.int .i64 cl),.v (.int .u64 ss),.v (.int .u64 sq),.v (.int .u64 bo),.v (.int .i64 kd),.v (.int .i64 er),.v (.int .i64 f1),.v (.int .i64 f2),.v (.int .i64 d1),.v (.int .i64 d2),.v (.string nm),.v (.string ot),.v (.int .i64 mo),.v (.int .i64 pl),.v (.string da),.v (.int .u64 ve),.obj 0]] [.agg #[.int .i64 ty,.int .i64 cl,.int .u64 ss,.int .u64 sq,.int .u64 bo,.int .i64 kd,.int .i64 er,.int .i64 f1,.int .i64 f2,.int .i64 d1,.int .i64 d2,.string nm,.string ot,.int .i64 mo,.int .i64 pl,.string da,.int .u64 ve,u]]:=⟨⟨[.int .i64 ty,.int .i64 cl,.int .u64 ss,.int .u64 sq,.int .u64 bo,.int .i64 kd,.int .i64 er,.int .i64 f1,.int .i64 f2,.int .i64 d1,.int .i64 d2,.string nm,.string ot,.int .i64 mo,.int .i64 pl,.string da,.int .u64 ve,u],⟨rfl,rfl,rfl,rfl,rfl,rfl,rfl,rfl,rfl,rfl,rfl,rfl,rfl,rfl,rfl,rfl,rfl,rfl,trivial⟩,rfl⟩,trivial⟩
 have hd:(decide (o=o)&&eo==eo)=true:=by rw [decide_eq_true rfl,beq_self_eq_true];rfl
 refine (ya6 (I:=Id') (fun (W0:World) (G:Nat→Prop)=>SyOk.mk2 Try.mixed yal (FnsR.cons (R_msh) (FnsR.cons (R_encX o eo) (FnsR.cons (R_rencX o eo) (FnsR.cons (ymp (J:=dkI) (hx:=yag)) (FnsR.cons (R_lv17) (FnsR.nil)))))) EqsOk.nil) rfl Try.func7 (by kernel_rfl) (fun W0 G=>LpsOk.nil _) (cs:=[true]) (by kernel_rfl) (we17_w0 R ty cl ss sq bo kd er f1 f2 d1 d2 nm ot mo pl da ve o eo he h1 h2 h3 (yjb _ _ (by decide)) (yjb _ _ (by decide)) (yjb _ _ (by decide)) h4 (sh_rows R) hd) w [u] _ hM hA).mono fun y w' ⟨v,e',g1,_,g2,g3⟩=>⟨g1.trans (congrArg _ g2),?_⟩
 have hx:Ext w w':=g3.mod.mono fun k _ hk=>by
  obtain ⟨i,_,m,_,hn,hmu,_⟩:=footE.1 hk
  cases i with
  |zero=>simp at hn;subst hn;cases hmu
  |succ i=>simp at hn
 exact hx.below
open Go.ChangeShapes Go.WideShapes Go.ChangeAt
theorem yh2 (m:Mm.Msg×Value) (W:World) (hm:Mm.MsgIn W m):Calls Try.prog 7 #[.agg (m.1.vals m.2).toArray] W fun e w'=>e=.returned (.bool true)∧Below W.heap.size W w':=
 ymx (m.1.en.map ygv) m.1.ty m.1.cl m.1.ss m.1.sq m.1.bo m.1.kd m.1.er m.1.f1 m.1.f2 m.1.d1 m.1.d2 m.1.nm m.1.ot m.1.mo m.1.pl m.1.da m.1.ve W m.2 (ytc hm.1) hm.2.1 hm.2.2.1 hm.2.2.2.1 hm.2.2.2.2
end Go.Proofs.Ytiiekgcjilelpaa
