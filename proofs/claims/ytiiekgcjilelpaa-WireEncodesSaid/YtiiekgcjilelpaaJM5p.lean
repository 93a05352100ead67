/- JM4 JM5. -/
import Derived.Test.YtiiekgcjilelpaaJM3p
import Derived.Laws.StructEq
open List renaming mem_cons_of_mem → zak, mem_cons_self → zal, not_mem_nil → zbc
set_option maxRecDepth 100000
set_option linter.unusedSimpArgs false
set_option linter.unusedVariables false
namespace Go.Proofs.Ytiiekgcjilelpaa
open Go.RowKit
namespace Mm
def yu8:TypeId×(List Value→List Value→Option Bool):=(29,fun u v=>match u,v with
 |[.int .i64 a,.int .i64 b],[.int .i64 c,.int .i64 d]=>some (a==c&&b==d)
 |_,_=>none)
theorem ylm {E:EqFns} (ht:∀ ty g,ygw ty E=some g→Try.prog.eqGuardType Try.prog.depth ty=false∧∀ (u v:Array Value) b,g u.toList v.toList=some b→∀ w,(Op.equal ty (.agg u) (.agg v)).run Try.prog w=.ok b w):
  ∀ ty' g',ygw ty' (yu8::E)=some g'→Try.prog.eqGuardType Try.prog.depth ty'=false∧∀ (u v:Array Value) b,g' u.toList v.toList=some b→∀ w,(Op.equal ty' (.agg u) (.agg v)).run Try.prog w=.ok b w:=
 EqsOk.cons (by kernel_rfl) (fun u v r h w=>by
  split at h
  ·rename_i a b c d h1 h2
   simp only [Option.some.injEq] at h
   subst h
   obtain rfl:u=#[.int .i64 a,.int .i64 b]:=Array.ext' h1
   obtain rfl:v=#[.int .i64 c,.int .i64 d]:=Array.ext' h2
   show (Op.equalIn 10000 29 _ _).run Try.prog w=_
   by_cases ha:a=c
   ·subst ha
    by_cases hb:b=d
    ·subst hb;simp [go_sem]
    ·simp [go_sem,hb]
   ·simp [go_sem,ha]
  ·cases h) ht
def andI (n f:Int):Int:=IntKind.u16.wrap ((BitVec.ofInt IntKind.u16.bits n &&& BitVec.ofInt IntKind.u16.bits f).toNat:Int)
def okB (n f:Int) (z r:Bool):Bool:=(andI n f==0&&z)||(andI n f != 0&&r)
def yke (s:ByteArray):Bool:=cond (nameB s) (0:Int) 9==0
def yml (nm:ByteArray) (ino gen kind:Int):Bool:=yke nm&&ysl ino gen&&twoB kind
theorem named_c (s:ByteArray) (w:World):Calls Try.prog 250 #[.string s] w fun e w'=>e=.returned (.bool (yke s))∧Ext w w':=
 yep (S:=⟨Try.prog,[F_check],[],yck,labI.one,40⟩) (I:=labI) (L:=[]) (args:=[.one (.v (.string s))]) (us:=[.string s]) (e:=[]) (mem:=[]) (SyOk.mk' Try.mixed (ywz (FnsOk.nil)) (EqsOk.nil)) Try.func250 (by kernel_rfl) (LpsOk.nil _) ⟨rfl,trivial⟩ (by kernel_rfl) (ybx _ w) [] (by kernel_rfl) (by kernel_rfl) (by simp)
def ys6:Nat×Fn2 Lab:=(250,fun us mem=>match us with|[.one a0]=>(match valP a0 with|some (.string s)=>some ([],svV (.bool (yke s)),none)|_=>none)|_=>none)
theorem ymq {W0:World} {G:Nat→Prop} {F:Fns Lab} (ht:FnsOk Try.prog labI W0 G F):FnsOk Try.prog labI W0 G (ys6::F):=
 FnsOk.cons Try.call250 (fun args mem ps r mo h hp w e us hM ha=>by
  repeat' split at h
  all_goals first
   |(cases h;done)
   |skip
  simp only [Option.some.injEq,Prod.mk.injEq] at h
  obtain ⟨rfl,rfl,rfl⟩:=h
  simp only [yba,ybk] at ha
  obtain ⟨u0,t0,rfl,hc0,rfl⟩:=ha
  obtain rfl:=yad (by assumption) (show PV.is e _ _ from hc0)
  refine (named_c _ w ).mono fun x w' ⟨h1,h2⟩=>⟨_,h1,rfl,h2⟩
  all_goals skip) ht
theorem entry_c (nm:ByteArray) (ino gen kd:Int) (w:World):Calls Try.prog 267 #[.agg #[.string nm,.int .i64 ino,.int .i64 gen,.int .i64 kd]] w fun e w'=>e=.returned (.bool (yml nm ino gen kd))∧Ext w w':=
 yep (S:=⟨Try.prog,[ys6,F_file,F_two],[],yck,labI.one,40⟩) (I:=labI) (L:=[]) (args:=[.agg [.v (.string nm),.v (.int .i64 ino),.v (.int .i64 gen),.v (.int .i64 kd)]]) (us:=[.agg #[.string nm,.int .i64 ino,.int .i64 gen,.int .i64 kd]]) (e:=[]) (mem:=[]) (SyOk.mk' Try.mixed (ymq (yqt (yux (FnsOk.nil)))) (EqsOk.nil)) Try.func267 (by kernel_rfl) (LpsOk.nil _) ⟨⟨[.string nm,.int .i64 ino,.int .i64 gen,.int .i64 kd],⟨rfl,rfl,rfl,rfl,trivial⟩,rfl⟩,trivial⟩ (by kernel_rfl) (ybx _ w) [] (by kernel_rfl) (by kernel_rfl) (by simp)
def yoi:Nat×Fn2 Lab:=(267,fun us mem=>match us with|[.agg a0]=>(match a0 with|[b0_0,b0_1,b0_2,b0_3]=>(match valP b0_0 with|some (.string nm)=>(match valP b0_1 with|some (.int .i64 ino)=>(match valP b0_2 with|some (.int .i64 gen)=>(match valP b0_3 with|some (.int .i64 kd)=>some ([],svV (.bool (yml nm ino gen kd)),none)|_=>none)|_=>none)|_=>none)|_=>none)|_=>none)|_=>none)
theorem yms {W0:World} {G:Nat→Prop} {F:Fns Lab} (ht:FnsOk Try.prog labI W0 G F):FnsOk Try.prog labI W0 G (yoi::F):=
 FnsOk.cons Try.call267 (fun args mem ps r mo h hp w e us hM ha=>by
  repeat' split at h
  all_goals first
   |(cases h;done)
   |skip
  simp only [Option.some.injEq,Prod.mk.injEq] at h
  obtain ⟨rfl,rfl,rfl⟩:=h
  simp only [yba,ybk] at ha
  obtain ⟨u0,t0,rfl,hc0,rfl⟩:=ha
  obtain ⟨xs0,hxs0,rfl⟩:=hc0
  simp only [ydk,yd4] at hxs0
  obtain ⟨y0_0,s0_0,rfl,hb0_0,y0_1,s0_1,rfl,hb0_1,y0_2,s0_2,rfl,hb0_2,y0_3,s0_3,rfl,hb0_3,rfl⟩:=hxs0
  obtain rfl:=yad (by assumption) hb0_0
  obtain rfl:=yad (by assumption) hb0_1
  obtain rfl:=yad (by assumption) hb0_2
  obtain rfl:=yad (by assumption) hb0_3
  refine (entry_c _ _ _ _ w ).mono fun x w' ⟨h1,h2⟩=>⟨_,h1,rfl,h2⟩
  all_goals skip) ht
end Mm
namespace Mm
theorem yhp {n k:Nat} {f:Nat→Bool} (h:k<n) (hb:f k=true):((List.range n).all fun i=>!f i)=false:=by
 rw [List.all_eq_false];exact ⟨k,List.mem_range.2 h,by simp [hb]⟩
theorem yhq {n:Nat} {f:Nat→Bool} (h:∀ k,k<n→f k=false):((List.range n).all fun i=>!f i)=true:=by
 rw [List.all_eq_true];intro x hx;simp [h x (List.mem_range.1 hx)]
def geS (a b:ByteArray):Bool:=!Op.bytesLess a.toList b.toList
def badE (l:List Ent) (k:Nat):Bool:=!yml (entAt l k).nm (entAt l k).ino (entAt l k).gen (entAt l k).kind||(decide ((k:Int)>0)&&geS (entAt l (IntKind.i64.wrap ((k:Int) - 1)).toNat).nm (entAt l k).nm)
def yix (l:List Ent):Bool:=(List.range l.length).all fun i=>!badE l i
theorem yv8 {l:List Ent} {k:Nat} (h:k<l.length) (hb:badE l k=true):yix l=false:=yhp h hb
theorem yv9 {l:List Ent} (h:∀ k,k<l.length→badE l k=false):yix l=true:=yhq h
def ygs (l:List Ent):Bool:=yix l&&decide ((l.length:Int)≤24)
theorem Es.max {w:World} {v:Value} {l:List Ent} (h:Es w v l):l.length≤9223372036854775807:=by
 obtain ⟨ao,cap,_,h1,h2,_⟩:=h
 exact Nat.le_trans h1 h2
theorem prev_ok {k n:Nat} (h:k<n) (hmax:n≤9223372036854775807) (hg:decide ((k:Int)>0)=true):yc3 (IntKind.i64.wrap ((k:Int) - 1)) n:=by
 have:=of_decide_eq_true hg
 rw [IntWalk.i64_in _ (by omega)]
 exact ⟨by omega,by omega⟩
def entsG (l:List Ent) (c:Code):SSt Lab→Option (Tr Lab):=fun st=>match yab 0 st.base,yab 5 st.base,yab 6 st.base,yab 7 st.base,st.mem,ycm 1 st.base with
 |some (.c (.one (.obj 0))),some (.c (.one (.obj 0))),some (.c (.one (.v (.int .i64 n')))),some (.c (.one (.kI .i64 (.ofNat 0)))),[⟨.sl K' lb',false⟩],true=>some (.need [K'=entKS l,lb'=.ents l,n'=(l.length:Int)] (.br (yix l) (.leaf (.exit 0) (xSt (yah c) [] st)) (.leaf .ret (xSt (yah c) [(2,.c (.one (.kB false)))] st))))
 |_,_,_,_,_,_=>none
theorem entsG_ok (l:List Ent) (hmax:l.length≤9223372036854775807) {W0:World} {G:Nat→Prop} (hS:SyOk ⟨Try.prog,[yoi],[],yck,labI.one,40⟩ labI W0 G):ycr ⟨Try.prog,[yoi],[],yck,labI.one,40⟩ labI W0 G 34 (hdC (ybe (yat Try.f252)) 0) (entsG l (hdC (ybe (yat Try.f252)) 0)):=by
 intro st t h
 unfold entsG at h
 split at h
 case h_2=>cases h
 rename_i n' K' lb' h0 h5 h6 h7 hm hsc
 simp only [Option.some.injEq] at h
 subst h
 refine ⟨⟨yb2 (by kernel_rfl),yb2 (by kernel_rfl)⟩,fun KK hT Q a w e hf hM hQ=>?_⟩
 obtain rfl:K'=entKS l:=hT.1 _ (zal ..)
 obtain rfl:lb'=.ents l:=hT.1 _ (zak _ (zal ..))
 obtain rfl:n'=(l.length:Int):=hT.1 _ (zak _ (zak _ (zal ..)))
 refine yeu (L:=[]) hS (LpsOk.nil _) (M0:=[enS l]) (V:=fun k=>[(7,svV (.int .i64 (k:Int)))]) (R:=[(5,.c (.one (.obj 0))),(6,svV (.int .i64 (l.length:Int))),(0,.c (.one (.obj 0)))]) (N:=l.length)
  (Ux:=fun k x=>match x with|.exit 0=>some []|.ret=>some [(2,.c (.one (.kB false)))]|_=>none) (X:=fun k x=>match x with|.exit 0=>yix l=true|.ret=>k<l.length∧badE l k=true|_=>False)
  (J:=fun k=>∀ j,j<k→badE l j=false)
  (fun en h=>by rcases List.mem_cons.1 h with rfl|h;exact fun i=>rfl;cases h) rfl (fun k=>⟨by kernel_rfl,rfl⟩) (fun k x U hU=>?_) (fun j hj=>absurd hj (by omega)) (fun k hk hJ base ver=>?_) hm ⟨?_,trivial⟩ ⟨by rw [h5];rfl,by rw [h6];rfl,by rw [h0];rfl,trivial⟩ hsc hT (fun k x U hk hU hX hT=>?_) hf hM hQ
 ·split at hU
  ·simp only [Option.some.injEq] at hU;subst hU;exact ⟨rfl,rfl⟩
  ·simp only [Option.some.injEq] at hU;subst hU;exact ⟨by kernel_rfl,rfl⟩
  ·cases hU
 ·refine Eq.mp (α:=(decide ((k:Int)<(l.length:Int))=true→(∀ p∈[yc3 (k:Int) l.length],p)∧(∀ p∈[((decide ((k:Int)>0)&&(!(!yml (entAt l k).nm (entAt l k).ino (entAt l k).gen (entAt l k).kind)&&true))=true→yc3 (IntKind.i64.wrap ((k:Int) - 1)) l.length)],p)∧
    ((badE l k=true→[enS l]=[enS l]∧(k<l.length∧badE l k=true)∧svV (.bool false)=svV (.bool false)∧True)∧
     (badE l k=false→[enS l]=[enS l]∧(k<l.length∧∀ j,j<k+1→badE l j=false)∧svV (.int .i64 (IntKind.i64.wrap ((k:Int)+1)))=svV (.int .i64 ((k+1:Nat):Int))∧True)))∧
   (decide ((k:Int)<(l.length:Int))=false→[enS l]=[enS l]∧yix l=true∧True)) (by kernel_rfl) ?_
  have hmax:(l.length:Nat)≤9223372036854775807:=hmax
  refine ⟨fun hlt=>?_,fun hge=>⟨rfl,yv9 fun j hj=>hJ j (by have:=of_decide_eq_false hge;omega),trivial⟩⟩
  have hlt:k<l.length:=by have:=of_decide_eq_true hlt;omega
  have hid:yc3 (k:Int) (l.length):=⟨by omega,by omega⟩
  refine ⟨fun p hp=>?_,fun p hp=>?_,fun hb=>⟨rfl,⟨hlt,hb⟩,rfl,trivial⟩,fun hb=>⟨rfl,⟨hlt,fun j hj=>?_⟩,?_,trivial⟩⟩
  ·simp only [List.mem_cons,zbc,or_false] at hp
   rcases hp with rfl
   ·first|exact hid|exact fun _=>hid|exact obx
  ·simp only [List.mem_cons,zbc,or_false] at hp
   subst hp
   exact fun hg=>prev_ok hlt hmax (by rw [Bool.and_eq_true] at hg;exact hg.1)
  ·rcases Nat.lt_succ_iff_lt_or_eq.1 hj with h|rfl
   ·exact hJ j h
   ·exact hb
  ·rw [IntWalk.i64_in _ (by omega)];rfl
 ·show EqO (yab 7 st.base) _
  rw [h7];rfl
 ·split at hU
  ·simp only [Option.some.injEq] at hU;subst hU
   exact hT.2.1 hX
  ·simp only [Option.some.injEq] at hU;subst hU
   obtain ⟨h1,h2⟩:k<l.length∧badE l k=true:=hX
   exact hT.2.2 (yv8 h1 h2)
  ·cases hU
theorem entries_c (l:List Ent) (v:Value) (w:World) (hv:Es w v l):Calls Try.prog 252 #[v] w fun e w'=>e=.returned (.bool (ygs l))∧Ext w w':=
 yep (S:=⟨Try.prog,[yoi],[],yck,labI.one,40⟩) (I:=labI) (L:=[(2,entsG l (hdC (ybe (yat Try.f252)) 0))]) (args:=[.one (.obj 0)]) (us:=[v]) (e:=[v]) (mem:=[enS l]) (SyOk.mk' Try.mixed (yms (FnsOk.nil)) (EqsOk.nil)) Try.func252 (by kernel_rfl) (lps1 (by kernel_rfl) (entsG_ok l hv.max (SyOk.mk' Try.mixed (yms (FnsOk.nil)) EqsOk.nil))) ⟨rfl,trivial⟩ (by kernel_rfl) (yd0 hv) [entKS l=entKS l,Lab.ents l=Lab.ents l,(l.length:Int)=(l.length:Int)] (by kernel_rfl) (by kernel_rfl) (by simp)
def yqv:Nat×Fn2 Lab:=(252,fun us mem=>match us with|[.one (.obj o_v)]=>(match mem[o_v]? with|some ⟨.sl K_v (.ents l),_⟩=>some ([K_v=entKS l],svV (.bool (ygs l)),none)|_=>none)|_=>none)
theorem yqu {W0:World} {G:Nat→Prop} {F:Fns Lab} (ht:FnsOk Try.prog labI W0 G F):FnsOk Try.prog labI W0 G (yqv::F):=
 FnsOk.cons Try.call252 (fun args mem ps r mo h hp w e us hM ha=>by
  repeat' split at h
  all_goals first
   |(cases h;done)
   |skip
  simp only [Option.some.injEq,Prod.mk.injEq] at h
  obtain ⟨rfl,rfl,rfl⟩:=h
  simp only [yba,ybk] at ha
  obtain ⟨u0,t0,rfl,hc0,rfl⟩:=ha
  refine (entries_c _ _ w ?_).mono fun x w' ⟨h1,h2⟩=>⟨_,h1,rfl,h2⟩
  all_goals first
   |(exact yls hM (by assumption) (by assumption) (hp _ (by simp)))
   |(exact hp _ (by simp))) ht
end Mm
end Go.Proofs.Ytiiekgcjilelpaa
