/- JM1. -/
import Derived.Test.YtiiekgcjilelpaaE3p
set_option linter.unusedSimpArgs false
set_option linter.unusedVariables false
namespace Go.Proofs.Ytiiekgcjilelpaa
open Go.RowKit
namespace Mm
theorem Try.mixed:Try.prog.follows .mixedOrders=true:=by kernel_rfl
structure Ent where
 nm:ByteArray
 ino:Int
 gen:Int
 kind:Int
def Ent.zero:Ent:=⟨⟨#[]⟩,0,0,0⟩
def entAt (l:List Ent) (i:Nat):Ent:=l.getD i Ent.zero
def entKS (l:List Ent):KS:=⟨4,l.length,fun i=>[.v (.string (entAt l i).nm),.v (.int .i64 (entAt l i).ino),.v (.int .i64 (entAt l i).gen),.v (.int .i64 (entAt l i).kind)]⟩
inductive Lab where
 |ents (l:List Ent)
 |box (cs:List PV)
 |kn (ds:List (List Ent×Value))
 |tape (t:List (List Bool))
def BoxIs (w:World) (u:Value) (cs:List PV):Prop:=∃ b o,u=.pointer (some ⟨b,o,none⟩)∧∀ (j:Nat) (p:PV),cs[j]? =some p→∃ x,w.cell? ⟨b,o+j,none⟩=some x∧p.is [] x∧w.frozen? ⟨b,o+j,none⟩=false
def EsR (w:World) (v:Value) (l:List Ent):Prop:=Holds noI [] w v false (.sl (entKS l) ())
def EsF (w:World) (v:Value) (l:List Ent) (k:Nat):Prop:=Foot noI w v (.sl (entKS l) ()) k
def labH:Lab→World→Value→Prop
 |.ents _,_,_=>False
 |.box cs,w,u=>BoxIs w u cs
 |.kn ds,w,u=>u.oneCell'=true∧∀ d∈ds,EsR w d.2 d.1
 |.tape _,w,u=>u.oneCell'=true
def labF:Lab→World→Value→Nat→Prop
 |.ents _,_,_,_=>False
 |.box _,_,u,k=>∃ b o,u=.pointer (some ⟨b,o,none⟩)∧k=b
 |.kn ds,w,_,k=>∃ d∈ds,EsF w d.2 d.1 k
 |.tape _,_,_,_=>False
def labI:ObI Lab:=.mk1 labH labF (fun _=>false) (fun b w u h F w' hm hf=>by
  cases b with
  |ents l=>exact h.elim
  |box cs=>
   refine ⟨?_,fun k hk=>hk⟩
   obtain ⟨b,o,rfl,h⟩:=h
   refine ⟨b,o,rfl,fun j p hp=>?_⟩
   obtain ⟨x,h1,h2,h3⟩:=h j p hp
   have hb:¬ F b:=hf b ⟨b,o,rfl,rfl⟩
   exact ⟨x,hm.cell h1 hb,h2,hm.frozen (World.block_lt_of_cell? w _ h1) hb h3⟩
  |kn ds=>exact ⟨⟨h.1,fun d hd=>(Holds.stay (h.2 d hd) hm fun k hk=>hf k ⟨d,hd,hk⟩).1⟩,fun k hk=>hk⟩
  |tape t=>exact ⟨h,fun k hk=>hk⟩) (fun b w u h=>by
  cases b with
  |ents l=>exact h.elim
  |box cs=>obtain ⟨b,o,rfl,_⟩:=h;rfl
  |kn ds=>exact h.1
  |tape t=>exact h)
def enS (l:List Ent):En Lab:=⟨.sl (entKS l) (.ents l),false⟩
def Es (w:World) (v:Value) (l:List Ent):Prop:=Holds labI [] w v false (enS l).ob
theorem es_env {e e':Env} {w:World} {v:Value} {m:Bool} {l:List Ent} {b:Lab} (h:Holds labI e w v m (.sl (entKS l) b)) {m':Bool} {b':Lab}:Holds labI e' w v m' (.sl (entKS l) b'):=by
 obtain ⟨ao,cap,rfl,h1,h2,h3,h4⟩:=h
 refine ⟨ao,cap,rfl,h1,h2,h3,fun a ha=>⟨(h4 a ha).1,fun i hi j p hp=>?_⟩⟩
 obtain ⟨x,g1,g2⟩:=(h4 a ha).2 i hi j p hp
 refine ⟨x,g1,?_⟩
 simp only [entKS] at hp
 match j,hp with
 |0,hp=>simp at hp;subst hp;exact g2
 |1,hp=>simp at hp;subst hp;exact g2
 |2,hp=>simp at hp;subst hp;exact g2
 |3,hp=>simp at hp;subst hp;exact g2
 |j+4,hp=>simp at hp
theorem Es.lt {w:World} {v:Value} {l:List Ent} (h:Es w v l) {k:Nat} (hk:Foot labI w v (enS l).ob k):k<w.heap.size:=by
 obtain ⟨ao,cap,rfl,h1,h2,h3,h4⟩:=h
 obtain ⟨hn,hk⟩:=hk
 cases ao with
 |none=>cases hk
 |some a=>
  obtain ⟨x,g1,_⟩:=(h4 a rfl).2 0 (by have:(entKS l).n≠0:=hn;omega) 0 _ rfl
  have:=World.block_lt_of_cell? w _ g1
  cases hk
  exact this
theorem memOk_ro {w:World} {e:Env} {mem:Mem Lab} (hl:e.length=mem.length) (h:∀ (i:Nat) (u:Value) (n:En Lab),e[i]? =some u→mem[i]? =some n→∃ l,n=enS l∧Es w u l):MemOk w (fun _=>False) labI w e mem:=by
 refine ⟨hl,fun i u n hu hn=>?_,fun i u n hu hn k hk=>?_,fun i u n hu hn hm=>?_,fun i j u v n m hu hn hm=>?_,Mod.refl _ w,fun _ _ _ _ _ _ _=>.inr id⟩
 ·obtain ⟨l,rfl,hs⟩:=h i u n hu hn
  exact es_env hs
 ·obtain ⟨l,rfl,hs⟩:=h i u n hu hn
  exact hs.lt hk
 ·obtain ⟨l,rfl,_⟩:=h i u n hu hn;cases hm
 ·obtain ⟨l,rfl,_⟩:=h i u n hu hn;cases hm
theorem memOk_es1 {w:World} {v:Value} {l:List Ent} (h:Es w v l):MemOk w (fun _=>False) labI w [v] [enS l]:=memOk_ro rfl fun i u n hu hn=>by
 match i,hu,hn with
 |0,hu,hn=>simp at hu hn;subst hu;subst hn;exact ⟨l,rfl,h⟩
 |i+1,hu,_=>simp at hu
theorem memOk_es2 {w:World} {v v':Value} {l l':List Ent} (h:Es w v l) (h':Es w v' l'):MemOk w (fun _=>False) labI w [v,v'] [enS l,enS l']:=memOk_ro rfl fun i u n hu hn=>by
 match i,hu,hn with
 |0,hu,hn=>simp at hu hn;subst hu;subst hn;exact ⟨l,rfl,h⟩
 |1,hu,hn=>simp at hu hn;subst hu;subst hn;exact ⟨l',rfl,h'⟩
 |i+2,hu,_=>simp at hu
theorem es_of {W0:World} {G:Nat→Prop} {w:World} {e:Env} {mem:Mem Lab} {i:Nat} {u:Value} {K:KS} {l:List Ent} {mu:Bool} (hM:MemOk W0 G labI w e mem) (hu:(PV.obj i).is e u) (hm:mem[i]? =some ⟨.sl K (.ents l),mu⟩) (hK:K=entKS l):Es w u l:=by
 subst hK
 exact es_env (hM.holds i u _ hu hm)
theorem allC_cons {e:Env} {x:CV} {xs:List CV} {us:List Value}:AllC e (x::xs) us↔∃ u t,us=u::t∧x.is e u∧AllC e xs t:=by
 cases us with
 |nil=>simp [AllC]
 |cons u t=>
  constructor
  ·rintro ⟨h1,h2⟩;exact ⟨u,t,rfl,h1,h2⟩
  ·rintro ⟨u',t',h,h1,h2⟩;cases h;exact ⟨h1,h2⟩
theorem allC_nil {e:Env} {us:List Value}:AllC e [] us↔us=[]:=by cases us<;>simp [AllC]
theorem allIs_cons {e:Env} {x:PV} {xs:List PV} {us:List Value}:AllIs e (x::xs) us↔∃ u t,us=u::t∧x.is e u∧AllIs e xs t:=by
 cases us with
 |nil=>simp [AllIs]
 |cons u t=>
  constructor
  ·rintro ⟨h1,h2⟩;exact ⟨u,t,rfl,h1,h2⟩
  ·rintro ⟨u',t',h,h1,h2⟩;cases h;exact ⟨h1,h2⟩
theorem allIs_nil {e:Env} {us:List Value}:AllIs e [] us↔us=[]:=by cases us<;>simp [AllIs]
def countB (x:Int):Bool:=decide (1≤x)&&decide (x≤1099511627775)
def fileB (x y:Int):Bool:=decide (1≤x)&&decide (x≤40)&&decide (0≤y)&&decide (y≤2147483647)
def twoB (x:Int):Bool:=x==1||x==2
set_option maxRecDepth 100000 in
theorem count_c (x:Int) (w:World):Calls Try.prog 247 #[.int .u64 x] w fun e w'=>e=.returned (.bool (countB x))∧Ext w w':=
 sym_b (S:=⟨Try.prog,[],[],noApp,labI.one,40⟩) (I:=labI) (L:=[]) (args:=[.one (.v (.int .u64 x))]) (us:=[.int .u64 x]) (e:=[]) (mem:=[]) (SyOk.mk' Try.mixed (FnsOk.nil) (EqsOk.nil)) Try.func247 (by kernel_rfl) (LpsOk.nil _) ⟨rfl,trivial⟩ (by kernel_rfl) (memOk_nil _ w) [] (by kernel_rfl) (by kernel_rfl) (by simp)
def F_count:Nat×Fn2 Lab:=(247,fun us mem=>match us with|[.one a0]=>(match valP a0 with|some (.int .u64 x)=>some ([],svV (.bool (countB x)),none)|_=>none)|_=>none)
theorem F_count_ok {W0:World} {G:Nat→Prop} {F:Fns Lab} (ht:FnsOk Try.prog labI W0 G F):FnsOk Try.prog labI W0 G (F_count::F):=
 FnsOk.cons Try.call247 (fun args mem ps r mo h hp w e us hM ha=>by
  repeat' split at h
  all_goals first
   |(cases h;done)
   |skip
  simp only [Option.some.injEq,Prod.mk.injEq] at h
  obtain ⟨rfl,rfl,rfl⟩:=h
  simp only [allC_cons,allC_nil] at ha
  obtain ⟨u0,t0,rfl,hc0,rfl⟩:=ha
  obtain rfl:=valP_is (by assumption) (show PV.is e _ _ from hc0)
  refine (count_c _ w ).mono fun x w' ⟨h1,h2⟩=>⟨_,h1,rfl,h2⟩
  all_goals skip) ht
set_option maxRecDepth 100000 in
theorem file_c (x y:Int) (w:World):Calls Try.prog 249 #[.agg #[.int .i64 x,.int .i64 y]] w fun e w'=>e=.returned (.bool (fileB x y))∧Ext w w':=
 sym_b (S:=⟨Try.prog,[],[],noApp,labI.one,40⟩) (I:=labI) (L:=[]) (args:=[.agg [.v (.int .i64 x),.v (.int .i64 y)]]) (us:=[.agg #[.int .i64 x,.int .i64 y]]) (e:=[]) (mem:=[]) (SyOk.mk' Try.mixed (FnsOk.nil) (EqsOk.nil)) Try.func249 (by kernel_rfl) (LpsOk.nil _) ⟨⟨[.int .i64 x,.int .i64 y],⟨rfl,rfl,trivial⟩,rfl⟩,trivial⟩ (by kernel_rfl) (memOk_nil _ w) [] (by kernel_rfl) (by kernel_rfl) (by simp)
def F_file:Nat×Fn2 Lab:=(249,fun us mem=>match us with|[.agg a0]=>(match a0 with|[b0_0,b0_1]=>(match valP b0_0 with|some (.int .i64 x)=>(match valP b0_1 with|some (.int .i64 y)=>some ([],svV (.bool (fileB x y)),none)|_=>none)|_=>none)|_=>none)|_=>none)
theorem F_file_ok {W0:World} {G:Nat→Prop} {F:Fns Lab} (ht:FnsOk Try.prog labI W0 G F):FnsOk Try.prog labI W0 G (F_file::F):=
 FnsOk.cons Try.call249 (fun args mem ps r mo h hp w e us hM ha=>by
  repeat' split at h
  all_goals first
   |(cases h;done)
   |skip
  simp only [Option.some.injEq,Prod.mk.injEq] at h
  obtain ⟨rfl,rfl,rfl⟩:=h
  simp only [allC_cons,allC_nil] at ha
  obtain ⟨u0,t0,rfl,hc0,rfl⟩:=ha
  obtain ⟨xs0,hxs0,rfl⟩:=hc0
  simp only [allIs_cons,allIs_nil] at hxs0
  obtain ⟨y0_0,s0_0,rfl,hb0_0,y0_1,s0_1,rfl,hb0_1,rfl⟩:=hxs0
  obtain rfl:=valP_is (by assumption) hb0_0
  obtain rfl:=valP_is (by assumption) hb0_1
  refine (file_c _ _ w ).mono fun x w' ⟨h1,h2⟩=>⟨_,h1,rfl,h2⟩
  all_goals skip) ht
set_option maxRecDepth 100000 in
theorem two_c (x:Int) (w:World):Calls Try.prog 251 #[.int .i64 x] w fun e w'=>e=.returned (.bool (twoB x))∧Ext w w':=
 sym_b (S:=⟨Try.prog,[],[],noApp,labI.one,40⟩) (I:=labI) (L:=[]) (args:=[.one (.v (.int .i64 x))]) (us:=[.int .i64 x]) (e:=[]) (mem:=[]) (SyOk.mk' Try.mixed (FnsOk.nil) (EqsOk.nil)) Try.func251 (by kernel_rfl) (LpsOk.nil _) ⟨rfl,trivial⟩ (by kernel_rfl) (memOk_nil _ w) [] (by kernel_rfl) (by kernel_rfl) (by simp)
def F_two:Nat×Fn2 Lab:=(251,fun us mem=>match us with|[.one a0]=>(match valP a0 with|some (.int .i64 x)=>some ([],svV (.bool (twoB x)),none)|_=>none)|_=>none)
theorem F_two_ok {W0:World} {G:Nat→Prop} {F:Fns Lab} (ht:FnsOk Try.prog labI W0 G F):FnsOk Try.prog labI W0 G (F_two::F):=
 FnsOk.cons Try.call251 (fun args mem ps r mo h hp w e us hM ha=>by
  repeat' split at h
  all_goals first
   |(cases h;done)
   |skip
  simp only [Option.some.injEq,Prod.mk.injEq] at h
  obtain ⟨rfl,rfl,rfl⟩:=h
  simp only [allC_cons,allC_nil] at ha
  obtain ⟨u0,t0,rfl,hc0,rfl⟩:=ha
  obtain rfl:=valP_is (by assumption) (show PV.is e _ _ from hc0)
  refine (two_c _ w ).mono fun x w' ⟨h1,h2⟩=>⟨_,h1,rfl,h2⟩
  all_goals skip) ht
end Mm
end Go.Proofs.Ytiiekgcjilelpaa
