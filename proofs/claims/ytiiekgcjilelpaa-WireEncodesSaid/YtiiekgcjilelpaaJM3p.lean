/- JM1 JM2 JM3. -/
import Derived.Test.YtiiekgcjilelpaaE3p
import Derived.IntWalk
import Derived.Laws.RangeAny
import Derived.Laws.RangeString
import Derived.Lib.OthersKept
import Derived.LoopTactic
open List renaming getElem?_eq_getElem → zaa, mem_cons_self → zal
set_option maxRecDepth 100000
set_option linter.unusedSimpArgs false
set_option linter.unusedVariables false
namespace Go.Proofs.Ytiiekgcjilelpaa
open Go.RowKit
namespace Mm
theorem Try.mixed:Try.prog.follows .mixedOrders=true:=by kernel_rfl
structure Ent where
 nm:ByteArray
 ino:Int
 gen:Int
 kind:Int
def Ent.zero:Ent:=⟨⟨#[]⟩,0,0,0⟩
def entAt (l:List Ent) (i:Nat):Ent:=l.getD i Ent.zero
def entKS (l:List Ent):KS:=⟨4,l.length,fun i=>[.v (.string (entAt l i).nm),.v (.int .i64 (entAt l i).ino),.v (.int .i64 (entAt l i).gen),.v (.int .i64 (entAt l i).kind)]⟩
inductive Lab where
 |ents (l:List Ent)
 |box (cs:List PV)
 |kn (ds:List (List Ent×Value))
 |tape (t:List (List Bool))
def BoxIs (w:World) (u:Value) (cs:List PV):Prop:=∃ b o,u=.pointer (some ⟨b,o,none⟩)∧∀ (j:Nat) (p:PV),cs[j]? =some p→∃ x,w.cell? ⟨b,o+j,none⟩=some x∧p.is [] x∧w.frozen? ⟨b,o+j,none⟩=false
def EsR (w:World) (v:Value) (l:List Ent):Prop:=Holds noI [] w v false (.sl (entKS l) ())
def EsF (w:World) (v:Value) (l:List Ent) (k:Nat):Prop:=Foot noI w v (.sl (entKS l) ()) k
def labH:Lab→World→Value→Prop
 |.ents _,_,_=>False
 |.box cs,w,u=>BoxIs w u cs
 |.kn ds,w,u=>u.oneCell'=true∧∀ d∈ds,EsR w d.2 d.1
 |.tape _,w,u=>u.oneCell'=true
def labF:Lab→World→Value→Nat→Prop
 |.ents _,_,_,_=>False
 |.box _,_,u,k=>∃ b o,u=.pointer (some ⟨b,o,none⟩)∧k=b
 |.kn ds,w,_,k=>∃ d∈ds,EsF w d.2 d.1 k
 |.tape _,_,_,_=>False
def labI:ObI Lab:=.mk1 labH labF (fun _=>false) (fun b w u h F w' hm hf=>by
  cases b with
  |ents l=>exact h.elim
  |box cs=>
   refine ⟨?_,fun k hk=>hk⟩
   obtain ⟨b,o,rfl,h⟩:=h
   refine ⟨b,o,rfl,fun j p hp=>?_⟩
   obtain ⟨x,h1,h2,h3⟩:=h j p hp
   have hb:¬ F b:=hf b ⟨b,o,rfl,rfl⟩
   exact ⟨x,hm.cell h1 hb,h2,hm.frozen (World.block_lt_of_cell? w _ h1) hb h3⟩
  |kn ds=>exact ⟨⟨h.1,fun d hd=>(Holds.stay (h.2 d hd) hm fun k hk=>hf k ⟨d,hd,hk⟩).1⟩,fun k hk=>hk⟩
  |tape t=>exact ⟨h,fun k hk=>hk⟩) (fun b w u h=>by
  cases b with
  |ents l=>exact h.elim
  |box cs=>obtain ⟨b,o,rfl,_⟩:=h;rfl
  |kn ds=>exact h.1
  |tape t=>exact h)
def enS (l:List Ent):En Lab:=⟨.sl (entKS l) (.ents l),false⟩
def Es (w:World) (v:Value) (l:List Ent):Prop:=Holds labI [] w v false (enS l).ob
theorem es_env {e e':Env} {w:World} {v:Value} {m:Bool} {l:List Ent} {b:Lab} (h:Holds labI e w v m (.sl (entKS l) b)) {m':Bool} {b':Lab}:Holds labI e' w v m' (.sl (entKS l) b'):=by
 obtain ⟨ao,cap,rfl,h1,h2,h3,h4⟩:=h
 refine ⟨ao,cap,rfl,h1,h2,h3,fun a ha=>⟨(h4 a ha).1,fun i hi j p hp=>?_⟩⟩
 obtain ⟨x,g1,g2⟩:=(h4 a ha).2 i hi j p hp
 refine ⟨x,g1,?_⟩
 simp only [entKS] at hp
 match j,hp with
 |0,hp=>simp at hp;subst hp;exact g2
 |1,hp=>simp at hp;subst hp;exact g2
 |2,hp=>simp at hp;subst hp;exact g2
 |3,hp=>simp at hp;subst hp;exact g2
 |j+4,hp=>simp at hp
theorem Es.lt {w:World} {v:Value} {l:List Ent} (h:Es w v l) {k:Nat} (hk:Foot labI w v (enS l).ob k):k<w.heap.size:=by
 obtain ⟨ao,cap,rfl,h1,h2,h3,h4⟩:=h
 obtain ⟨hn,hk⟩:=hk
 cases ao with
 |none=>cases hk
 |some a=>
  obtain ⟨x,g1,_⟩:=(h4 a rfl).2 0 (by have:(entKS l).n≠0:=hn;omega) 0 _ rfl
  have:=World.block_lt_of_cell? w _ g1
  cases hk
  exact this
theorem yty {w:World} {e:Env} {mem:Mem Lab} (hl:e.length=mem.length) (h:∀ (i:Nat) (u:Value) (n:En Lab),e[i]? =some u→mem[i]? =some n→∃ l,n=enS l∧Es w u l):MemOk w (fun _=>False) labI w e mem:=by
 refine ⟨hl,fun i u n hu hn=>?_,fun i u n hu hn k hk=>?_,fun i u n hu hn hm=>?_,fun i j u v n m hu hn hm=>?_,Mod.refl _ w,fun _ _ _ _ _ _ _=>.inr id⟩
 ·obtain ⟨l,rfl,hs⟩:=h i u n hu hn
  exact es_env hs
 ·obtain ⟨l,rfl,hs⟩:=h i u n hu hn
  exact hs.lt hk
 ·obtain ⟨l,rfl,_⟩:=h i u n hu hn;cases hm
 ·obtain ⟨l,rfl,_⟩:=h i u n hu hn;cases hm
theorem yd0 {w:World} {v:Value} {l:List Ent} (h:Es w v l):MemOk w (fun _=>False) labI w [v] [enS l]:=yty rfl fun i u n hu hn=>by
 match i,hu,hn with
 |0,hu,hn=>simp at hu hn;subst hu;subst hn;exact ⟨l,rfl,h⟩
 |i+1,hu,_=>simp at hu
theorem memOk_es2 {w:World} {v v':Value} {l l':List Ent} (h:Es w v l) (h':Es w v' l'):MemOk w (fun _=>False) labI w [v,v'] [enS l,enS l']:=yty rfl fun i u n hu hn=>by
 match i,hu,hn with
 |0,hu,hn=>simp at hu hn;subst hu;subst hn;exact ⟨l,rfl,h⟩
 |1,hu,hn=>simp at hu hn;subst hu;subst hn;exact ⟨l',rfl,h'⟩
 |i+2,hu,_=>simp at hu
theorem yls {W0:World} {G:Nat→Prop} {w:World} {e:Env} {mem:Mem Lab} {i:Nat} {u:Value} {K:KS} {l:List Ent} {mu:Bool} (hM:MemOk W0 G labI w e mem) (hu:(PV.obj i).is e u) (hm:mem[i]? =some ⟨.sl K (.ents l),mu⟩) (hK:K=entKS l):Es w u l:=by
 subst hK
 exact es_env (hM.holds i u _ hu hm)
theorem yba {e:Env} {x:CV} {xs:List CV} {us:List Value}:AllC e (x::xs) us↔∃ u t,us=u::t∧x.is e u∧AllC e xs t:=by
 cases us with
 |nil=>simp [AllC]
 |cons u t=>
  constructor
  ·rintro ⟨h1,h2⟩;exact ⟨u,t,rfl,h1,h2⟩
  ·rintro ⟨u',t',h,h1,h2⟩;cases h;exact ⟨h1,h2⟩
theorem ybk {e:Env} {us:List Value}:AllC e [] us↔us=[]:=by cases us<;>simp [AllC]
theorem ydk {e:Env} {x:PV} {xs:List PV} {us:List Value}:AllIs e (x::xs) us↔∃ u t,us=u::t∧x.is e u∧AllIs e xs t:=by
 cases us with
 |nil=>simp [AllIs]
 |cons u t=>
  constructor
  ·rintro ⟨h1,h2⟩;exact ⟨u,t,rfl,h1,h2⟩
  ·rintro ⟨u',t',h,h1,h2⟩;cases h;exact ⟨h1,h2⟩
theorem yd4 {e:Env} {us:List Value}:AllIs e [] us↔us=[]:=by cases us<;>simp [AllIs]
def yk7 (x:Int):Bool:=decide (1≤x)&&decide (x≤1099511627775)
def ysl (x y:Int):Bool:=decide (1≤x)&&decide (x≤40)&&decide (0≤y)&&decide (y≤2147483647)
def twoB (x:Int):Bool:=x==1||x==2
theorem count_c (x:Int) (w:World):Calls Try.prog 247 #[.int .u64 x] w fun e w'=>e=.returned (.bool (yk7 x))∧Ext w w':=
 yep (S:=⟨Try.prog,[],[],yck,labI.one,40⟩) (I:=labI) (L:=[]) (args:=[.one (.v (.int .u64 x))]) (us:=[.int .u64 x]) (e:=[]) (mem:=[]) (SyOk.mk' Try.mixed (FnsOk.nil) (EqsOk.nil)) Try.func247 (by kernel_rfl) (LpsOk.nil _) ⟨rfl,trivial⟩ (by kernel_rfl) (ybx _ w) [] (by kernel_rfl) (by kernel_rfl) (by simp)
def F_count:Nat×Fn2 Lab:=(247,fun us mem=>match us with|[.one a0]=>(match valP a0 with|some (.int .u64 x)=>some ([],svV (.bool (yk7 x)),none)|_=>none)|_=>none)
theorem ywy {W0:World} {G:Nat→Prop} {F:Fns Lab} (ht:FnsOk Try.prog labI W0 G F):FnsOk Try.prog labI W0 G (F_count::F):=
 FnsOk.cons Try.call247 (fun args mem ps r mo h hp w e us hM ha=>by
  repeat' split at h
  all_goals first
   |(cases h;done)
   |skip
  simp only [Option.some.injEq,Prod.mk.injEq] at h
  obtain ⟨rfl,rfl,rfl⟩:=h
  simp only [yba,ybk] at ha
  obtain ⟨u0,t0,rfl,hc0,rfl⟩:=ha
  obtain rfl:=yad (by assumption) (show PV.is e _ _ from hc0)
  refine (count_c _ w ).mono fun x w' ⟨h1,h2⟩=>⟨_,h1,rfl,h2⟩
  all_goals skip) ht
theorem file_c (x y:Int) (w:World):Calls Try.prog 249 #[.agg #[.int .i64 x,.int .i64 y]] w fun e w'=>e=.returned (.bool (ysl x y))∧Ext w w':=
 yep (S:=⟨Try.prog,[],[],yck,labI.one,40⟩) (I:=labI) (L:=[]) (args:=[.agg [.v (.int .i64 x),.v (.int .i64 y)]]) (us:=[.agg #[.int .i64 x,.int .i64 y]]) (e:=[]) (mem:=[]) (SyOk.mk' Try.mixed (FnsOk.nil) (EqsOk.nil)) Try.func249 (by kernel_rfl) (LpsOk.nil _) ⟨⟨[.int .i64 x,.int .i64 y],⟨rfl,rfl,trivial⟩,rfl⟩,trivial⟩ (by kernel_rfl) (ybx _ w) [] (by kernel_rfl) (by kernel_rfl) (by simp)
def F_file:Nat×Fn2 Lab:=(249,fun us mem=>match us with|[.agg a0]=>(match a0 with|[b0_0,b0_1]=>(match valP b0_0 with|some (.int .i64 x)=>(match valP b0_1 with|some (.int .i64 y)=>some ([],svV (.bool (ysl x y)),none)|_=>none)|_=>none)|_=>none)|_=>none)
theorem yqt {W0:World} {G:Nat→Prop} {F:Fns Lab} (ht:FnsOk Try.prog labI W0 G F):FnsOk Try.prog labI W0 G (F_file::F):=
 FnsOk.cons Try.call249 (fun args mem ps r mo h hp w e us hM ha=>by
  repeat' split at h
  all_goals first
   |(cases h;done)
   |skip
  simp only [Option.some.injEq,Prod.mk.injEq] at h
  obtain ⟨rfl,rfl,rfl⟩:=h
  simp only [yba,ybk] at ha
  obtain ⟨u0,t0,rfl,hc0,rfl⟩:=ha
  obtain ⟨xs0,hxs0,rfl⟩:=hc0
  simp only [ydk,yd4] at hxs0
  obtain ⟨y0_0,s0_0,rfl,hb0_0,y0_1,s0_1,rfl,hb0_1,rfl⟩:=hxs0
  obtain rfl:=yad (by assumption) hb0_0
  obtain rfl:=yad (by assumption) hb0_1
  refine (file_c _ _ w ).mono fun x w' ⟨h1,h2⟩=>⟨_,h1,rfl,h2⟩
  all_goals skip) ht
theorem two_c (x:Int) (w:World):Calls Try.prog 251 #[.int .i64 x] w fun e w'=>e=.returned (.bool (twoB x))∧Ext w w':=
 yep (S:=⟨Try.prog,[],[],yck,labI.one,40⟩) (I:=labI) (L:=[]) (args:=[.one (.v (.int .i64 x))]) (us:=[.int .i64 x]) (e:=[]) (mem:=[]) (SyOk.mk' Try.mixed (FnsOk.nil) (EqsOk.nil)) Try.func251 (by kernel_rfl) (LpsOk.nil _) ⟨rfl,trivial⟩ (by kernel_rfl) (ybx _ w) [] (by kernel_rfl) (by kernel_rfl) (by simp)
def F_two:Nat×Fn2 Lab:=(251,fun us mem=>match us with|[.one a0]=>(match valP a0 with|some (.int .i64 x)=>some ([],svV (.bool (twoB x)),none)|_=>none)|_=>none)
theorem yux {W0:World} {G:Nat→Prop} {F:Fns Lab} (ht:FnsOk Try.prog labI W0 G F):FnsOk Try.prog labI W0 G (F_two::F):=
 FnsOk.cons Try.call251 (fun args mem ps r mo h hp w e us hM ha=>by
  repeat' split at h
  all_goals first
   |(cases h;done)
   |skip
  simp only [Option.some.injEq,Prod.mk.injEq] at h
  obtain ⟨rfl,rfl,rfl⟩:=h
  simp only [yba,ybk] at ha
  obtain ⟨u0,t0,rfl,hc0,rfl⟩:=ha
  obtain rfl:=yad (by assumption) (show PV.is e _ _ from hc0)
  refine (two_c _ w ).mono fun x w' ⟨h1,h2⟩=>⟨_,h1,rfl,h2⟩
  all_goals skip) ht
end Mm
namespace Mm
def hdC (l:List Code) (n:Nat):Code:=match l with
 |[]=>.skip
 |c::cs=>match n with|0=>c|n+1=>hdC cs n
def onlyM (id:Nat):List Code→List Code
 |[]=>[]
 |c::cs=>match eqb (idF c) id with|true=>c::onlyM id cs|false=>onlyM id cs
theorem onlyM_mem {c:Code} {id:Nat} {l:List Code} (h:c∈l) (he:eqb (idF c) id=true):c∈onlyM id l:=by
 induction l with
 |nil=>cases h
 |cons x xs ih=>
  simp only [onlyM]
  rcases List.mem_cons.1 h with rfl|h
  ·rw [he];exact zal ..
  ·split
   ·exact List.mem_cons_of_mem _ (ih h)
   ·exact ih h
theorem lps1 {S:Sy Lab} {W0:World} {G:Nat→Prop} {sz id:Nat} {g:SSt Lab→Option (Tr Lab)} {b c:Code} (hc:onlyM id (yb4 b)=[.loop c]) (h:ycr S labI W0 G sz c g):LpsOk S labI W0 G [(id,g)] sz b:=fun c' hc' g' hg=>by
 simp only [ysb] at hg
 split at hg
 ·rename_i he
  simp only [Option.some.injEq] at hg;subst hg
  have:=onlyM_mem hc' (id:=id) (by rw [eqb_eq] at he ⊢;exact he.symm)
  rw [hc] at this
  simp at this
  subst this
  exact h
 ·cases hg
def ycp (s:ByteArray) (k:Nat):UInt8:=s.data.toList.getD k 0
def badB (x:UInt8):Bool:=decide ((x.toNat:Int)≤32)||decide ((x.toNat:Int)≥127)||(x.toNat:Int)==47
def yf3 (s:ByteArray):Bool:=s.data.toList.all fun x=>!badB x
def nameB (s:ByteArray):Bool:=yf3 s&&(decide ((s.size:Int)>0)&&decide ((s.size:Int)<17)&&(!(s.toList==(⟨#[46]⟩:ByteArray).toList))&&(!(s.toList==(⟨#[46,46]⟩:ByteArray).toList)))
theorem ypz {s:ByteArray} {k:Nat} (h:k<s.size) (hb:badB (ycp s k)=true):yf3 s=false:=by
 unfold yf3
 rw [List.all_eq_false]
 have hk:k<s.data.toList.length:=by simpa using h
 exact ⟨s.data.toList[k],List.getElem_mem hk,by simpa [ycp,List.getD,zaa hk] using hb⟩
theorem yp0 {s:ByteArray} (h:∀ k,k<s.size→badB (ycp s k)=false):yf3 s=true:=by
 unfold yf3
 rw [List.all_eq_true]
 intro x hx
 obtain ⟨k,hk,rfl⟩:=List.getElem_of_mem hx
 have:=h k (by simpa using hk)
 simpa [ycp,List.getD,zaa hk] using this
def isG (c:Code) (s0:ByteArray):SSt Lab→Option (Tr Lab):=fun st=>match yab 0 st.base,yab 3 st.base,st.mem,ycm 0 st.base with
 |some (.c (.one (.v (.string s)))),some (.c (.one (.kI .i64 (.ofNat 0)))),[],true=>some (.need [s=s0] (.br (yf3 s0) (.leaf (.exit 0) (xSt (yah c) [] st)) (.leaf .ret (xSt (yah c) [(2,.c (.one (.kB false)))] st))))
 |_,_,_,_=>none
theorem isG_ok (s:ByteArray) (hs:s.size≤9223372036854775807) {W0:World} {G:Nat→Prop} (hS:SyOk ⟨Try.prog,[],[],yck,labI.one,40⟩ labI W0 G):
  ycr ⟨Try.prog,[],[],yck,labI.one,40⟩ labI W0 G 42 (hdC (ybe (yat Try.f195)) 0) (isG (hdC (ybe (yat Try.f195)) 0) s):=by
 intro st t h
 unfold isG at h
 split at h
 case h_2=>cases h
 rename_i s' h0 h3 hm hsc
 simp only [Option.some.injEq] at h
 subst h
 refine ⟨⟨yb2 (by kernel_rfl),yb2 (by kernel_rfl)⟩,fun K hT Q a w e hf hM hQ=>?_⟩
 have hss:s'=s:=hT.1 _ (zal ..)
 subst hss
 refine yeu (L:=[]) hS (LpsOk.nil _) (M0:=[]) (V:=fun k=>[(3,svV (.int .i64 (k:Int)))]) (R:=[(0,svV (.string s'))]) (N:=s'.size)
  (Ux:=fun k x=>match x with|.exit 0=>some []|.ret=>some [(2,.c (.one (.kB false)))]|_=>none) (X:=fun k x=>match x with|.exit 0=>yf3 s'=true|.ret=>k<s'.size∧badB (ycp s' k)=true|_=>False)
  (J:=fun k=>∀ j,j<k→badB (ycp s' j)=false)
  (fun en h=>by cases h) rfl (fun k=>⟨by kernel_rfl,rfl⟩) (fun k x U hU=>?_) (fun j hj=>absurd hj (by omega)) (fun k hk hJ base ver=>?_) hm ⟨?_,trivial⟩ ⟨by rw [h0];rfl,trivial⟩ hsc hT (fun k x U hk hU hX hT=>?_) hf hM hQ
 ·split at hU
  ·simp only [Option.some.injEq] at hU;subst hU;exact ⟨rfl,rfl⟩
  ·simp only [Option.some.injEq] at hU;subst hU;exact ⟨by kernel_rfl,rfl⟩
  ·cases hU
 ·refine Eq.mp (α:=(decide ((k:Int)<(s'.size:Int))=true→
    (∀ p∈[((!(decide (((ycp s' k).toNat:Int)≤32)||decide (((ycp s' k).toNat:Int)≥127))&&true)=true→yc3 (k:Int) s'.size),((!(decide (((ycp s' k).toNat:Int)≤32))&&true)=true→yc3 (k:Int) s'.size),yc3 (k:Int) s'.size],p)∧
    ((badB (ycp s' k)=true→([]:Mem Lab)=[]∧(k<s'.size∧badB (ycp s' k)=true)∧svV (.bool false)=svV (.bool false)∧True)∧
     (badB (ycp s' k)=false→([]:Mem Lab)=[]∧(k<s'.size∧∀ j,j<k+1→badB (ycp s' j)=false)∧svV (.int .i64 (IntKind.i64.wrap ((k:Int)+1)))=svV (.int .i64 ((k+1:Nat):Int))∧True)))∧
   (decide ((k:Int)<(s'.size:Int))=false→([]:Mem Lab)=[]∧yf3 s'=true∧True)) (by kernel_rfl) ?_
  refine ⟨fun hlt=>?_,fun hge=>⟨rfl,yp0 fun j hj=>hJ j (by have:=of_decide_eq_false hge;omega),trivial⟩⟩
  have hlt:k<s'.size:=by have:=of_decide_eq_true hlt;omega
  have hid:yc3 (k:Int) s'.size:=⟨by omega,by omega⟩
  refine ⟨fun p hp=>?_,fun hb=>⟨rfl,⟨hlt,hb⟩,rfl,trivial⟩,fun hb=>⟨rfl,⟨hlt,fun j hj=>?_⟩,?_,trivial⟩⟩
  ·simp only [List.mem_cons,List.not_mem_nil,or_false] at hp
   rcases hp with rfl|rfl|rfl
   ·exact fun _=>hid
   ·exact fun _=>hid
   ·exact hid
  ·rcases Nat.lt_succ_iff_lt_or_eq.1 hj with h|rfl
   ·exact hJ j h
   ·exact hb
  ·rw [IntWalk.i64_in _ (by omega)];rfl
 ·show EqO (yab 3 st.base) _
  rw [h3];rfl
 ·split at hU
  ·simp only [Option.some.injEq] at hU;subst hU
   exact hT.2.1 hX
  ·simp only [Option.some.injEq] at hU;subst hU
   obtain ⟨h1,h2⟩:k<s'.size∧badB (ycp s' k)=true:=hX
   exact hT.2.2 (ypz h1 h2)
  ·cases hU
theorem is_c (s:ByteArray) (w:World) (hs:s.size≤9223372036854775807):Calls Try.prog 195 #[.string s] w fun e w'=>e=.returned (.bool (nameB s))∧Ext w w':=
 yep (S:=⟨Try.prog,[],[],yck,labI.one,40⟩) (I:=labI) (L:=[(2,isG (hdC (ybe (yat Try.f195)) 0) s)]) (args:=[.one (.v (.string s))]) (us:=[.string s]) (e:=[]) (mem:=[]) (SyOk.mk' Try.mixed (FnsOk.nil) (EqsOk.nil)) Try.func195 (by kernel_rfl) (lps1 (by kernel_rfl) (isG_ok s hs (SyOk.mk' Try.mixed FnsOk.nil EqsOk.nil))) ⟨rfl,trivial⟩ (by kernel_rfl) (ybx _ w) [s=s] (by kernel_rfl) (by kernel_rfl) (by simp)
def F_is:Nat×Fn2 Lab:=(195,fun us mem=>match us with|[.one a0]=>(match valP a0 with|some (.string s)=>some ([s.size≤9223372036854775807],svV (.bool (nameB s)),none)|_=>none)|_=>none)
theorem F_is_ok {W0:World} {G:Nat→Prop} {F:Fns Lab} (ht:FnsOk Try.prog labI W0 G F):FnsOk Try.prog labI W0 G (F_is::F):=
 FnsOk.cons Try.call195 (fun args mem ps r mo h hp w e us hM ha=>by
  repeat' split at h
  all_goals first
   |(cases h;done)
   |skip
  simp only [Option.some.injEq,Prod.mk.injEq] at h
  obtain ⟨rfl,rfl,rfl⟩:=h
  simp only [yba,ybk] at ha
  obtain ⟨u0,t0,rfl,hc0,rfl⟩:=ha
  obtain rfl:=yad (by assumption) (show PV.is e _ _ from hc0)
  refine (is_c _ w  ?_).mono fun x w' ⟨h1,h2⟩=>⟨_,h1,rfl,h2⟩
  all_goals first
   |(exact yls hM (by assumption) (by assumption) (hp _ (by simp)))
   |(exact hp _ (by simp))) ht
def oddB (x:Int):Bool:=decide (x<33)||decide (x>126)||x==47
theorem odd_c (x:Int) (w:World):Calls Try.prog 246 #[.int .i32 x] w fun e w'=>e=.returned (.bool (oddB x))∧Ext w w':=
 yep (S:=⟨Try.prog,[],[],yck,labI.one,40⟩) (I:=labI) (L:=[]) (args:=[.one (.v (.int .i32 x))]) (us:=[.int .i32 x]) (e:=[]) (mem:=[]) (SyOk.mk' Try.mixed (FnsOk.nil) (EqsOk.nil)) Try.func246 (by kernel_rfl) (LpsOk.nil _) ⟨rfl,trivial⟩ (by kernel_rfl) (ybx _ w) [] (by kernel_rfl) (by kernel_rfl) (by simp)
end Mm
namespace Mm
theorem iter_ext {W w:World} {k:Nat} {s:ByteArray} {pos:Nat} (h:Ext W w) (hk:W.heap.size≤k):Ext W (w.iterAt k s pos):=
 Mod.trans (G:=fun i=>i=k) h ⟨rfl,rfl,rfl,by simp [World.iterAt],fun i _ hn=>by
  show (w.heap.setIfInBounds k _)[i]? =_
  rw [Array.getElem?_setIfInBounds_ne (fun e=>hn e.symm)]⟩ (fun i hi hl=>by subst hi;omega)
theorem yws {s:ByteArray} {k:Nat} (h:k<s.size):ycp s k=s[k]:=by
 have hk:k<s.data.toList.length:=by simpa using h
 simp [ycp,List.getD,zaa hk,ByteArray.getElem_eq_getElem_data]
theorem odd_low (x:UInt8):oddB (x.toNat:Int)=badB x:=by
 rw [Bool.eq_iff_iff]
 simp [badB,oddB]
 omega
theorem odd_high {x:Nat} (h:128≤x):oddB (x:Int)=true:=by
 simp [oddB]
 omega
theorem odd_rune {s:ByteArray} {pos:Nat} (h:pos<s.size):oddB ((Utf8.decode s pos).1:Int)=badB (ycp s pos)∧(badB (ycp s pos)=false→(Utf8.decode s pos).2=1):=by
 rw [yws h]
 by_cases ha:s[pos].toNat<128
 ·rw [decode_ascii s pos h ha]
  exact ⟨odd_low _,fun _=>rfl⟩
 ·obtain ⟨h1,_⟩:=decode_high s pos h (by omega)
  have hb:badB s[pos]=true:=by simp [badB];omega
  rw [hb]
  exact ⟨odd_high h1,fun h=>by cases h⟩
theorem ydu (s:ByteArray):s.toList.length=s.size:=by rw [ByteArray.toList_eq];simp
theorem ymb {w:World} {k pos:Nat} {s:ByteArray} (h:w.heap[k]? =some (.stringIter s pos)):w.iterPos k=pos:=by simp [World.iterPos,h]
theorem iter_ext0 (w:World) (s:ByteArray) (pos:Nat):Ext w (w.iter s pos):=by
 exact (Ext.refl w).alloc _
set_option maxHeartbeats 1000000 in
theorem ywn (s:ByteArray) (w:World) (h1:0<s.size) (h2:s.size≤16) (h3:(s.toList==[46])=false) (h4:(s.toList==[46,46])=false):
  Calls Try.prog 190 #[.string s] w fun e w'=>e=.returned (.int .i64 (cond (yf3 s) 0 9))∧Ext w w':=by
 have h5:s.toList.isEmpty=false:=by
  cases h:s.toList with
  |nil=>have:=ydu s;rw [h] at this;simp at this;omega
  |cons a l=>rfl
 have h6:decide ((16:Int)<(s.size:Int))=false:=by simp;omega
 obtain ⟨R,hR⟩:∃ R,R=cond (yf3 s) (0:Int) 9:=⟨_,rfl⟩
 rw [← hR]
 have HR:=Lib.hid hR
 clear hR
 have H1:=Lib.hid h1
 clear h1
 go_enter Try.func190,Try.ntmps190
 go_wp2_with fail
 clear h3 h4 h5 h6
 obtain ⟨k0,hk0⟩:∃ k,k=w.heap.size:=⟨_,rfl⟩
 obtain ⟨w1,hw1⟩:∃ x,x=w.iter s 0:=⟨_,rfl⟩
 have HI:=Lib.hid (show w1.heap[k0]? =some (.stringIter s 0) by rw [hw1,hk0];exact ys0 w _)
 have HX:=Lib.hid (show Ext w w1 by rw [hw1];exact iter_ext0 w s 0)
 have HK:=Lib.hid (show w.heap.size≤k0 by rw [hk0];exact Nat.le_refl _)
 rw [← hw1,←hk0]
 clear hw1 hk0
 go_loopw [4] (fun _ w'=>∃ pos:Nat,Hid (w'.heap[k0]? =some (.stringIter s pos))∧Hid (Ext w w')∧Hid (∀ j,j<pos→badB (ycp s j)=false)) (fun _ w'=>s.size - w'.iterPos k0)
 case atStart=>exact ⟨0,HI,HX,Lib.hid fun j hj=>absurd hj (by omega)⟩
 case round=>
  clear HI HX
  rename_i wr
  obtain ⟨pos,HI,HX,HJ⟩:=hrel
  by_cases hp:pos<s.size
  ·have hnx:∀ ty,(Instr.next (.pointer (some ⟨k0,0,none⟩)) true ty).run Try.prog wr=_:=fun ty=>Lib.run_next_any_at wr k0 s pos ty HI.out hp
   have HO:=Lib.hid (odd_rune hp)
   have HI2:=Lib.hid (Lib.iterAt_heap wr k0 s pos (pos+(Utf8.decode s pos).2) HI.out)
   have HX2:=Lib.hid (iter_ext (pos:=pos+(Utf8.decode s pos).2) HX.out HK.out:Ext w (wr.iterAt k0 s (pos+(Utf8.decode s pos).2)))
   have HM:=Lib.hid (ymb HI.out)
   go_wp2_with fail
   refine (odd_c _ _).mono ?_
   rintro r w3 ⟨rfl,hx3⟩
   have HX3:=Lib.hid (HX2.out.trans hx3)
   have HI3:=Lib.hid ((hx3.block k0 (Array.getElem?_eq_some_iff.1 HI2.out).1 id).trans HI2.out)
   clear hx3 hnx
   cases hb:badB (ycp s pos) with
   |true=>
    have ho:oddB ((Utf8.decode s pos).1:Int)=true:=HO.out.1.trans hb
    have hg:R=9:=by rw [HR.out,ypz hp hb];rfl
    go_wp2_with fail
    go_ret
    exact ⟨by rw [hg];rfl,HX3.out⟩
   |false=>
    have ho:oddB ((Utf8.decode s pos).1:Int)=false:=HO.out.1.trans hb
    have HW:=Lib.hid (HO.out.2 hb)
    have HB:=Lib.hid hb
    clear hb
    go_wp2_with fail
    go_roundw
    case rel=>
     refine ⟨pos+1,by rw [HW.out] at HI3;exact HI3,HX3,Lib.hid fun j hj=>?_⟩
     rcases Nat.lt_succ_iff_lt_or_eq.1 hj with h|rfl
     ·exact HJ.out j h
     ·exact HB.out
    case measure=>
     have h1:=ymb HI3.out
     have h2:=HM.out
     have h3:=HW.out
     omega
  ·have hnx:∀ ty,(Instr.next (.pointer (some ⟨k0,0,none⟩)) true ty).run Try.prog wr=_:=fun ty=>Lib.run_next_end_at wr k0 s pos ty HI.out hp
   have hg:R=0:=by rw [HR.out,yp0 fun j hj=>HJ.out j (by omega)];rfl
   go_wp2_with fail
   go_ret
   exact ⟨by rw [hg];rfl,HX.out⟩
set_option maxHeartbeats 1000000 in
theorem check_c (s:ByteArray) (w:World):Calls Try.prog 190 #[.string s] w fun e w'=>e=.returned (.int .i64 (cond (nameB s) 0 9))∧Ext w w':=by
 have e1:(⟨#[46]⟩:ByteArray).toList=[46]:=by rw [ByteArray.toList_eq]
 have e2:(⟨#[46,46]⟩:ByteArray).toList=[46,46]:=by rw [ByteArray.toList_eq]
 by_cases h1:0<s.size
 ·by_cases h2:s.size≤16
  ·cases h3:s.toList==[46] with
   |true=>
    have hn:nameB s=false:=by unfold nameB;rw [e1,h3];simp
    have h5:s.toList.isEmpty=false:=by rw [eq_of_beq h3];rfl
    have h6:decide ((16:Int)<(s.size:Int))=false:=by simp;omega
    rw [hn]
    clear hn e1 e2
    go_enter Try.func190,Try.ntmps190
    go_wp2_with fail
    go_ret
    exact ⟨rfl,Ext.refl w⟩
   |false=>
    cases h4:s.toList==[46,46] with
    |true=>
     have hn:nameB s=false:=by unfold nameB;rw [e2,h4];simp
     have h5:s.toList.isEmpty=false:=by rw [eq_of_beq h4];rfl
     have h6:decide ((16:Int)<(s.size:Int))=false:=by simp;omega
     rw [hn]
     clear hn e1 e2
     go_enter Try.func190,Try.ntmps190
     go_wp2_with fail
     go_ret
     exact ⟨rfl,Ext.refl w⟩
    |false=>
     have hn:nameB s=yf3 s:=by
      unfold nameB;rw [e1,e2,h3,h4]
      have a1:decide ((s.size:Int)>0)=true:=by simp;omega
      have a2:decide ((s.size:Int)<17)=true:=by simp;omega
      rw [a1,a2];simp
     rw [hn]
     exact ywn s w h1 h2 h3 h4
  ·have hn:nameB s=false:=by
    unfold nameB
    have a2:decide ((s.size:Int)<17)=false:=by simp;omega
    rw [a2];simp
   have h6:decide ((16:Int)<(s.size:Int))=true:=by simp;omega
   have h5:s.toList.isEmpty=false:=by
    cases h:s.toList with
    |nil=>have:=ydu s;rw [h] at this;simp at this;omega
    |cons a l=>rfl
   rw [hn]
   clear hn e1 e2
   go_enter Try.func190,Try.ntmps190
   go_wp2_with fail
   go_ret
   exact ⟨rfl,Ext.refl w⟩
 ·have hn:nameB s=false:=by
   unfold nameB
   have a1:decide ((s.size:Int)>0)=false:=decide_eq_false (by omega)
   rw [a1];simp
  have h5:s.toList=[]:=by
   have:=ydu s
   exact List.eq_nil_of_length_eq_zero (by rw [ydu s];omega)
  have h6:s.toList.isEmpty=true:=by rw [h5];rfl
  rw [hn]
  clear hn e1 e2
  go_enter Try.func190,Try.ntmps190
  go_wp2_with fail
  go_ret
  exact ⟨rfl,Ext.refl w⟩
def F_check:Nat×Fn2 Lab:=(190,fun us mem=>match us with|[.one a0]=>(match valP a0 with|some (.string s)=>some ([],svV (.int .i64 (cond (nameB s) 0 9)),none)|_=>none)|_=>none)
theorem ywz {W0:World} {G:Nat→Prop} {F:Fns Lab} (ht:FnsOk Try.prog labI W0 G F):FnsOk Try.prog labI W0 G (F_check::F):=
 FnsOk.cons Try.call190 (fun args mem ps r mo h hp w e us hM ha=>by
  repeat' split at h
  all_goals first
   |(cases h;done)
   |skip
  simp only [Option.some.injEq,Prod.mk.injEq] at h
  obtain ⟨rfl,rfl,rfl⟩:=h
  simp only [yba,ybk] at ha
  obtain ⟨u0,t0,rfl,hc0,rfl⟩:=ha
  obtain rfl:=yad (by assumption) (show PV.is e _ _ from hc0)
  refine (check_c _ w ).mono fun x w' ⟨h1,h2⟩=>⟨_,h1,rfl,h2⟩
  all_goals skip) ht
end Mm
end Go.Proofs.Ytiiekgcjilelpaa
