/- JM7. -/
import Derived.Test.YtiiekgcjilelpaaJM6p
import Derived.Laws.StructEq
set_option linter.unusedSimpArgs false
set_option linter.unusedVariables false
namespace Go.Proofs.Ytiiekgcjilelpaa
open Go.RowKit
namespace Mm
def E_ent:TypeId×(List Value→List Value→Option Bool):=(129,fun u v=>match u,v with
 |[.string s,.int .i64 a,.int .i64 b,.int .i64 c],[.string s',.int .i64 a',.int .i64 b',.int .i64 c']=>some (s.toList==s'.toList&&(a==a'&&b==b')&&c==c')
 |_,_=>none)
theorem E_ent_ok {E:EqFns} (ht:∀ ty g,eqGet ty E=some g→Try.prog.eqGuardType Try.prog.depth ty=false∧∀ (u v:Array Value) b,g u.toList v.toList=some b→∀ w,(Op.equal ty (.agg u) (.agg v)).run Try.prog w=.ok b w):
  ∀ ty' g',eqGet ty' (E_ent::E)=some g'→Try.prog.eqGuardType Try.prog.depth ty'=false∧∀ (u v:Array Value) b,g' u.toList v.toList=some b→∀ w,(Op.equal ty' (.agg u) (.agg v)).run Try.prog w=.ok b w:=
 EqsOk.cons (by kernel_rfl) (fun u v r h w=>by
  split at h
  ·rename_i s a b c s' a' b' c' h1 h2
   simp only [Option.some.injEq] at h
   subst h
   obtain rfl:u=#[.string s,.int .i64 a,.int .i64 b,.int .i64 c]:=Array.ext' h1
   obtain rfl:v=#[.string s',.int .i64 a',.int .i64 b',.int .i64 c']:=Array.ext' h2
   show (Op.equalIn 10000 129 _ _).run Try.prog w=_
   by_cases hs:s.toList=s'.toList<;>by_cases ha:a=a'<;>by_cases hb:b=b'<;>by_cases hc:c=c'<;>simp [go_sem,hs,ha,hb,hc]
  ·cases h) ht
def neE (l m:List Ent) (k:Nat):Bool:=!((entAt l k).nm.toList==(entAt m k).nm.toList&&((entAt l k).ino==(entAt m k).ino&&(entAt l k).gen==(entAt m k).gen)&&(entAt l k).kind==(entAt m k).kind)
def eqE (l m:List Ent):Bool:=(List.range l.length).all fun i=>!neE l m i
theorem eqE_bad {l m:List Ent} {k:Nat} (h:k<l.length) (hb:neE l m k=true):eqE l m=false:=range_bad h hb
theorem eqE_all {l m:List Ent} (h:∀ k,k<l.length→neE l m k=false):eqE l m=true:=range_all h
theorem mcons {q:Prop} {l:List Prop} (h:q) (t:∀ p∈l,p):∀ p∈q::l,p:=fun p hp=>by rcases List.mem_cons.1 hp with rfl|hp;exact h;exact t p hp
theorem mnil:∀ p∈([]:List Prop),p:=fun p hp=>by cases hp
theorem of_bne_false {a b:Int} (h:(a != b)=false):a=b:=by simpa using h
def sameE (l m:List Ent):Bool:=cond (((l.length:Nat):Int) != ((m.length:Nat):Int)) false (cond (eqE l m) true false)
def rsameG (l m:List Ent) (c:Code):SSt Lab→Option (Tr Lab):=fun st=>match baseGet 0 st.base,baseGet 1 st.base,baseGet 5 st.base,st.mem,scBase 2 st.base with
 |some (.c (.one (.obj 0))),some (.c (.one (.obj 1))),some (.c (.one (.kI .i64 (.ofNat 0)))),[⟨.sl K' lb',false⟩,⟨.sl K2' lb2',false⟩],true=>some (.need [K'=entKS l,lb'=.ents l,K2'=entKS m,lb2'=.ents m,l.length=m.length] (.br (eqE l m) (.leaf (.exit 0) (xSt (writesC c) [] st)) (.leaf .ret (xSt (writesC c) [(4,.c (.one (.kB false)))] st))))
 |_,_,_,_,_=>none
set_option maxRecDepth 100000 in
theorem rsameG_ok (l m:List Ent) (hmax:l.length≤9223372036854775807) {W0:World} {G:Nat→Prop} (hS:SyOk ⟨Try.prog,[],[E_ent],noApp,labI.one,40⟩ labI W0 G):LoopSound ⟨Try.prog,[],[E_ent],noApp,labI.one,40⟩ labI W0 G 26 (hdC (loopsC (bodyOf Try.f80)) 0) (rsameG l m (hdC (loopsC (bodyOf Try.f80)) 0)):=by
 intro st t h
 unfold rsameG at h
 split at h
 case h_2=>cases h
 rename_i K' lb' K2' lb2' h0 h1 h5 hm hsc
 simp only [Option.some.injEq] at h
 subst h
 refine ⟨⟨xSt_after (by kernel_rfl),xSt_after (by kernel_rfl)⟩,fun KK hT Q a w e hf hM hQ=>?_⟩
 obtain rfl:entKS l=K':=(hT.1 _ (List.mem_cons_self ..)).symm
 obtain rfl:.ents l=lb':=(hT.1 _ (List.mem_cons_of_mem _ (List.mem_cons_self ..))).symm
 obtain rfl:entKS m=K2':=(hT.1 _ (List.mem_cons_of_mem _ (List.mem_cons_of_mem _ (List.mem_cons_self ..)))).symm
 obtain rfl:.ents m=lb2':=(hT.1 _ (List.mem_cons_of_mem _ (List.mem_cons_of_mem _ (List.mem_cons_of_mem _ (List.mem_cons_self ..))))).symm
 have hEQ:l.length=m.length:=hT.1 _ (List.mem_cons_of_mem _ (List.mem_cons_of_mem _ (List.mem_cons_of_mem _ (List.mem_cons_of_mem _ (List.mem_cons_self ..)))))
 refine loop_rule (L:=[]) hS (LpsOk.nil _) (M0:=[enS l,enS m]) (V:=fun k=>[(5,svV (.int .i64 (k:Int)))]) (R:=[(0,.c (.one (.obj 0))),(1,.c (.one (.obj 1)))]) (N:=l.length)
  (Ux:=fun k x=>match x with|.exit 0=>some []|.ret=>some [(4,.c (.one (.kB false)))]|_=>none) (X:=fun k x=>match x with|.exit 0=>eqE l m=true|.ret=>k<l.length∧neE l m k=true|_=>False)
  (J:=fun k=>∀ j,j<k→neE l m j=false)
  (fun en h=>by rcases List.mem_cons.1 h with rfl|h;exact fun i=>rfl;rcases List.mem_cons.1 h with rfl|h;exact fun i=>rfl;cases h) rfl (fun k=>⟨by kernel_rfl,rfl⟩) (fun k x U hU=>?_) (fun j hj=>absurd hj (by omega)) (fun k hk hJ base ver=>?_) hm ⟨?_,trivial⟩ ⟨by rw [h0];rfl,by rw [h1];rfl,trivial⟩ hsc hT (fun k x U hk hU hX hT=>?_) hf hM hQ
 ·split at hU
  ·simp only [Option.some.injEq] at hU;subst hU;exact ⟨rfl,rfl⟩
  ·simp only [Option.some.injEq] at hU;subst hU;exact ⟨by kernel_rfl,rfl⟩
  ·cases hU
 ·refine Eq.mp (α:=(decide ((k:Int)<(l.length:Int))=true→(∀ p∈[idxOk (k:Int) m.length,idxOk (k:Int) l.length],p)∧
    ((neE l m k=true→[enS l,enS m]=[enS l,enS m]∧(k<l.length∧neE l m k=true)∧svV (.bool false)=svV (.bool false)∧True)∧
     (neE l m k=false→[enS l,enS m]=[enS l,enS m]∧(k<l.length∧∀ j,j<k+1→neE l m j=false)∧svV (.int .i64 (IntKind.i64.wrap ((k:Int)+1)))=svV (.int .i64 ((k+1:Nat):Int))∧True)))∧
   (decide ((k:Int)<(l.length:Int))=false→[enS l,enS m]=[enS l,enS m]∧eqE l m=true∧True)) (by kernel_rfl) ?_
  have hmax:(l.length:Nat)≤9223372036854775807:=hmax
  refine ⟨fun hlt=>?_,fun hge=>⟨rfl,eqE_all fun j hj=>hJ j (by have:=of_decide_eq_false hge;omega),trivial⟩⟩
  have hlt:k<l.length:=by have:=of_decide_eq_true hlt;omega
  have hid:idxOk (k:Int) (l.length):=⟨by omega,by omega⟩
  refine ⟨fun p hp=>?_,fun hb=>⟨rfl,⟨hlt,hb⟩,rfl,trivial⟩,fun hb=>⟨rfl,⟨hlt,fun j hj=>?_⟩,?_,trivial⟩⟩
  ·simp only [List.mem_cons,List.not_mem_nil,or_false] at hp
   rcases hp with rfl|rfl
   all_goals first|exact hid|exact hEQ▸hid
  ·rcases Nat.lt_succ_iff_lt_or_eq.1 hj with h|rfl
   ·exact hJ j h
   ·exact hb
  ·rw [IntWalk.i64_in _ (by omega)];rfl
 ·show EqO (baseGet 5 st.base) _
  rw [h5];rfl
 ·split at hU
  ·simp only [Option.some.injEq] at hU;subst hU
   exact hT.2.1 hX
  ·simp only [Option.some.injEq] at hU;subst hU
   obtain ⟨h1,h2⟩:k<l.length∧neE l m k=true:=hX
   exact hT.2.2 (eqE_bad h1 h2)
  ·cases hU
set_option maxRecDepth 100000 in
theorem rsame_c (l:List Ent) (v:Value) (m:List Ent) (u:Value) (w:World) (hv:Es w v l) (hu:Es w u m):Calls Try.prog 80 #[v,u] w fun e w'=>e=.returned (.bool (sameE l m))∧Ext w w':=
 sym_b (S:=⟨Try.prog,[],[E_ent],noApp,labI.one,40⟩) (I:=labI) (L:=[(4,rsameG l m (hdC (loopsC (bodyOf Try.f80)) 0))]) (args:=[.one (.obj 0),.one (.obj 1)]) (us:=[v,u]) (e:=[v,u]) (mem:=[enS l,enS m]) (SyOk.mk' Try.mixed (FnsOk.nil) (E_ent_ok (EqsOk.nil))) Try.func80 (by kernel_rfl) (lps1 (by kernel_rfl) (rsameG_ok l m hv.max (SyOk.mk' Try.mixed FnsOk.nil (E_ent_ok EqsOk.nil)))) ⟨rfl,rfl,trivial⟩ (by kernel_rfl) (memOk_es2 hv hu) [(((l.length:Nat):Int) != ((m.length:Nat):Int))=false→entKS l=entKS l,(((l.length:Nat):Int) != ((m.length:Nat):Int))=false→Lab.ents l=Lab.ents l,(((l.length:Nat):Int) != ((m.length:Nat):Int))=false→entKS m=entKS m,(((l.length:Nat):Int) != ((m.length:Nat):Int))=false→Lab.ents m=Lab.ents m,(((l.length:Nat):Int) != ((m.length:Nat):Int))=false→l.length=m.length] (by kernel_rfl) (by kernel_rfl) ((mcons (fun _=>rfl) (mcons (fun _=>rfl) (mcons (fun _=>rfl) (mcons (fun _=>rfl) (mcons (fun h=>Int.ofNat.inj (of_bne_false h)) mnil))))))
def F_rsame:Nat×Fn2 Lab:=(80,fun us mem=>match us with|[.one (.obj o_v),.one (.obj o_u)]=>(match mem[o_v]? with|some ⟨.sl K_v (.ents l),_⟩=>(match mem[o_u]? with|some ⟨.sl K_u (.ents m),_⟩=>some ([K_v=entKS l,K_u=entKS m],svV (.bool (sameE l m)),none)|_=>none)|_=>none)|_=>none)
theorem F_rsame_ok {W0:World} {G:Nat→Prop} {F:Fns Lab} (ht:FnsOk Try.prog labI W0 G F):FnsOk Try.prog labI W0 G (F_rsame::F):=
 FnsOk.cons Try.call80 (fun args mem ps r mo h hp w e us hM ha=>by
  repeat' split at h
  all_goals first
   |(cases h;done)
   |skip
  simp only [Option.some.injEq,Prod.mk.injEq] at h
  obtain ⟨rfl,rfl,rfl⟩:=h
  simp only [allC_cons,allC_nil] at ha
  obtain ⟨u0,t0,rfl,hc0,u1,t1,rfl,hc1,rfl⟩:=ha
  refine (rsame_c _ _ _ _ w ?_ ?_).mono fun x w' ⟨h1,h2⟩=>⟨_,h1,rfl,h2⟩
  all_goals first
   |(exact es_of hM (by assumption) (by assumption) (hp _ (by simp)))
   |(exact hp _ (by simp))) ht
end Mm
end Go.Proofs.Ytiiekgcjilelpaa
