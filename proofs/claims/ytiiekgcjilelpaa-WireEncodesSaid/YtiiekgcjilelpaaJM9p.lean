/- JM6 JM7 JM8 JM9. -/
import Derived.Test.YtiiekgcjilelpaaJM5p
import Derived.Laws.StructEq
open List renaming mem_cons_of_mem → zak, mem_cons_self → zal, not_mem_nil → zbc
set_option maxRecDepth 100000
set_option linter.unusedSimpArgs false
set_option linter.unusedVariables false
namespace Go.Proofs.Ytiiekgcjilelpaa
open Go.RowKit
namespace Mm
def refEntB (nm:ByteArray) (ino gen kd:Int):Bool:=nameB nm&&decide (ino>0)&&decide (ino<41)&&decide (gen≥0)&&decide (gen<2147483648)&&decide (kd>0)&&decide (kd<3)
def leS (a b:ByteArray):Bool:=Op.bytesLess a.toList b.toList||a.toList==b.toList
def badR (l:List Ent) (k:Nat):Bool:=!refEntB (entAt l k).nm (entAt l k).ino (entAt l k).gen (entAt l k).kind||(decide ((k:Int)>0)&&leS (entAt l k).nm (entAt l (IntKind.i64.wrap ((k:Int) - 1)).toNat).nm)
def riseB (l:List Ent):Bool:=(List.range l.length).all fun i=>!badR l i
theorem riseB_bad {l:List Ent} {k:Nat} (h:k<l.length) (hb:badR l k=true):riseB l=false:=yhp h hb
theorem riseB_all {l:List Ent} (h:∀ k,k<l.length→badR l k=false):riseB l=true:=yhq h
def Szs (l:List Ent):Prop:=∀ i,(entAt l i).nm.size≤9223372036854775807
theorem isE_c (nm:ByteArray) (ino gen kd:Int) (w:World) (hn:nm.size≤9223372036854775807):Calls Try.prog 268 #[.agg #[.string nm,.int .i64 ino,.int .i64 gen,.int .i64 kd]] w fun e w'=>e=.returned (.bool (refEntB nm ino gen kd))∧Ext w w':=
 yep (S:=⟨Try.prog,[F_is],[],yck,labI.one,40⟩) (I:=labI) (L:=[]) (args:=[.agg [.v (.string nm),.v (.int .i64 ino),.v (.int .i64 gen),.v (.int .i64 kd)]]) (us:=[.agg #[.string nm,.int .i64 ino,.int .i64 gen,.int .i64 kd]]) (e:=[]) (mem:=[]) (SyOk.mk' Try.mixed (F_is_ok (FnsOk.nil)) (EqsOk.nil)) Try.func268 (by kernel_rfl) (LpsOk.nil _) ⟨⟨[.string nm,.int .i64 ino,.int .i64 gen,.int .i64 kd],⟨rfl,rfl,rfl,rfl,trivial⟩,rfl⟩,trivial⟩ (by kernel_rfl) (ybx _ w) [nm.size≤9223372036854775807] (by kernel_rfl) (by kernel_rfl) (by intro p hp;simp only [List.mem_cons,zbc,or_false] at hp;subst hp;exact hn)
def F_isE:Nat×Fn2 Lab:=(268,fun us mem=>match us with|[.agg a0]=>(match a0 with|[b0_0,b0_1,b0_2,b0_3]=>(match valP b0_0 with|some (.string nm)=>(match valP b0_1 with|some (.int .i64 ino)=>(match valP b0_2 with|some (.int .i64 gen)=>(match valP b0_3 with|some (.int .i64 kd)=>some ([nm.size≤9223372036854775807],svV (.bool (refEntB nm ino gen kd)),none)|_=>none)|_=>none)|_=>none)|_=>none)|_=>none)|_=>none)
theorem yu3 {W0:World} {G:Nat→Prop} {F:Fns Lab} (ht:FnsOk Try.prog labI W0 G F):FnsOk Try.prog labI W0 G (F_isE::F):=
 FnsOk.cons Try.call268 (fun args mem ps r mo h hp w e us hM ha=>by
  repeat' split at h
  all_goals first
   |(cases h;done)
   |skip
  simp only [Option.some.injEq,Prod.mk.injEq] at h
  obtain ⟨rfl,rfl,rfl⟩:=h
  simp only [yba,ybk] at ha
  obtain ⟨u0,t0,rfl,hc0,rfl⟩:=ha
  obtain ⟨xs0,hxs0,rfl⟩:=hc0
  simp only [ydk,yd4] at hxs0
  obtain ⟨y0_0,s0_0,rfl,hb0_0,y0_1,s0_1,rfl,hb0_1,y0_2,s0_2,rfl,hb0_2,y0_3,s0_3,rfl,hb0_3,rfl⟩:=hxs0
  obtain rfl:=yad (by assumption) hb0_0
  obtain rfl:=yad (by assumption) hb0_1
  obtain rfl:=yad (by assumption) hb0_2
  obtain rfl:=yad (by assumption) hb0_3
  refine (isE_c _ _ _ _ w  ?_).mono fun x w' ⟨h1,h2⟩=>⟨_,h1,rfl,h2⟩
  all_goals first
   |(exact yls hM (by assumption) (by assumption) (hp _ (by simp)))
   |(exact hp _ (by simp))) ht
def riseG (l:List Ent) (c:Code):SSt Lab→Option (Tr Lab):=fun st=>match yab 0 st.base,yab 3 st.base,st.mem,ycm 1 st.base with
 |some (.c (.one (.obj 0))),some (.c (.one (.kI .i64 (.ofNat 0)))),[⟨.sl K' lb',false⟩],true=>some (.need [K'=entKS l,lb'=.ents l] (.br (riseB l) (.leaf (.exit 0) (xSt (yah c) [] st)) (.leaf .ret (xSt (yah c) [(2,.c (.one (.kB false)))] st))))
 |_,_,_,_=>none
theorem riseG_ok (l:List Ent) (hmax:l.length≤9223372036854775807) (hsz:Szs l) {W0:World} {G:Nat→Prop} (hS:SyOk ⟨Try.prog,[F_isE],[],yck,labI.one,40⟩ labI W0 G):ycr ⟨Try.prog,[F_isE],[],yck,labI.one,40⟩ labI W0 G 34 (hdC (ybe (yat Try.f257)) 0) (riseG l (hdC (ybe (yat Try.f257)) 0)):=by
 intro st t h
 unfold riseG at h
 split at h
 case h_2=>cases h
 rename_i K' lb' h0 h3 hm hsc
 simp only [Option.some.injEq] at h
 subst h
 refine ⟨⟨yb2 (by kernel_rfl),yb2 (by kernel_rfl)⟩,fun KK hT Q a w e hf hM hQ=>?_⟩
 obtain rfl:entKS l=K':=(hT.1 _ (zal ..)).symm
 obtain rfl:.ents l=lb':=(hT.1 _ (zak _ (zal ..))).symm
 refine yeu (L:=[]) hS (LpsOk.nil _) (M0:=[enS l]) (V:=fun k=>[(3,svV (.int .i64 (k:Int)))]) (R:=[(0,.c (.one (.obj 0)))]) (N:=l.length)
  (Ux:=fun k x=>match x with|.exit 0=>some []|.ret=>some [(2,.c (.one (.kB false)))]|_=>none) (X:=fun k x=>match x with|.exit 0=>riseB l=true|.ret=>k<l.length∧badR l k=true|_=>False)
  (J:=fun k=>∀ j,j<k→badR l j=false)
  (fun en h=>by rcases List.mem_cons.1 h with rfl|h;exact fun i=>rfl;cases h) rfl (fun k=>⟨by kernel_rfl,rfl⟩) (fun k x U hU=>?_) (fun j hj=>absurd hj (by omega)) (fun k hk hJ base ver=>?_) hm ⟨?_,trivial⟩ ⟨by rw [h0];rfl,trivial⟩ hsc hT (fun k x U hk hU hX hT=>?_) hf hM hQ
 ·split at hU
  ·simp only [Option.some.injEq] at hU;subst hU;exact ⟨rfl,rfl⟩
  ·simp only [Option.some.injEq] at hU;subst hU;exact ⟨by kernel_rfl,rfl⟩
  ·cases hU
 ·refine Eq.mp (α:=(decide ((k:Int)<(l.length:Int))=true→(∀ p∈[((decide ((k:Int)>0)&&(!(!refEntB (entAt l k).nm (entAt l k).ino (entAt l k).gen (entAt l k).kind)&&true))=true→yc3 (IntKind.i64.wrap ((k:Int) - 1)) l.length),((decide ((k:Int)>0)&&(!(!refEntB (entAt l k).nm (entAt l k).ino (entAt l k).gen (entAt l k).kind)&&true))=true→yc3 (k:Int) l.length),(entAt l k).nm.size≤9223372036854775807,yc3 (k:Int) l.length],p)∧
    ((badR l k=true→[enS l]=[enS l]∧(k<l.length∧badR l k=true)∧svV (.bool false)=svV (.bool false)∧True)∧
     (badR l k=false→[enS l]=[enS l]∧(k<l.length∧∀ j,j<k+1→badR l j=false)∧svV (.int .i64 (IntKind.i64.wrap ((k:Int)+1)))=svV (.int .i64 ((k+1:Nat):Int))∧True)))∧
   (decide ((k:Int)<(l.length:Int))=false→[enS l]=[enS l]∧riseB l=true∧True)) (by kernel_rfl) ?_
  have hmax:(l.length:Nat)≤9223372036854775807:=hmax
  refine ⟨fun hlt=>?_,fun hge=>⟨rfl,riseB_all fun j hj=>hJ j (by have:=of_decide_eq_false hge;omega),trivial⟩⟩
  have hlt:k<l.length:=by have:=of_decide_eq_true hlt;omega
  have hid:yc3 (k:Int) (l.length):=⟨by omega,by omega⟩
  refine ⟨fun p hp=>?_,fun hb=>⟨rfl,⟨hlt,hb⟩,rfl,trivial⟩,fun hb=>⟨rfl,⟨hlt,fun j hj=>?_⟩,?_,trivial⟩⟩
  ·simp only [List.mem_cons,zbc,or_false] at hp
   rcases hp with rfl|rfl|rfl|rfl
   ·exact fun hg=>prev_ok hlt hmax (by rw [Bool.and_eq_true] at hg;exact hg.1)
   ·exact fun _=>hid
   ·exact hsz _
   ·exact hid
  ·rcases Nat.lt_succ_iff_lt_or_eq.1 hj with h|rfl
   ·exact hJ j h
   ·exact hb
  ·rw [IntWalk.i64_in _ (by omega)];rfl
 ·show EqO (yab 3 st.base) _
  rw [h3];rfl
 ·split at hU
  ·simp only [Option.some.injEq] at hU;subst hU
   exact hT.2.1 hX
  ·simp only [Option.some.injEq] at hU;subst hU
   obtain ⟨h1,h2⟩:k<l.length∧badR l k=true:=hX
   exact hT.2.2 (riseB_bad h1 h2)
  ·cases hU
theorem rise_c (l:List Ent) (v:Value) (w:World) (hv:Es w v l) (hsz:Szs l):Calls Try.prog 257 #[v] w fun e w'=>e=.returned (.bool (cond (riseB l) true false))∧Ext w w':=
 yep (S:=⟨Try.prog,[F_isE],[],yck,labI.one,40⟩) (I:=labI) (L:=[(2,riseG l (hdC (ybe (yat Try.f257)) 0))]) (args:=[.one (.obj 0)]) (us:=[v]) (e:=[v]) (mem:=[enS l]) (SyOk.mk' Try.mixed (yu3 (FnsOk.nil)) (EqsOk.nil)) Try.func257 (by kernel_rfl) (lps1 (by kernel_rfl) (riseG_ok l hv.max hsz (SyOk.mk' Try.mixed (yu3 (FnsOk.nil)) EqsOk.nil))) ⟨rfl,trivial⟩ (by kernel_rfl) (yd0 hv) [entKS l=entKS l,Lab.ents l=Lab.ents l] (by kernel_rfl) (by kernel_rfl) (by simp)
def F_rise:Nat×Fn2 Lab:=(257,fun us mem=>match us with|[.one (.obj o_v)]=>(match mem[o_v]? with|some ⟨.sl K_v (.ents l),_⟩=>some ([K_v=entKS l,Szs l],svV (.bool (cond (riseB l) true false)),none)|_=>none)|_=>none)
theorem F_rise_ok {W0:World} {G:Nat→Prop} {F:Fns Lab} (ht:FnsOk Try.prog labI W0 G F):FnsOk Try.prog labI W0 G (F_rise::F):=
 FnsOk.cons Try.call257 (fun args mem ps r mo h hp w e us hM ha=>by
  repeat' split at h
  all_goals first
   |(cases h;done)
   |skip
  simp only [Option.some.injEq,Prod.mk.injEq] at h
  obtain ⟨rfl,rfl,rfl⟩:=h
  simp only [yba,ybk] at ha
  obtain ⟨u0,t0,rfl,hc0,rfl⟩:=ha
  refine (rise_c _ _ w ?_ ?_).mono fun x w' ⟨h1,h2⟩=>⟨_,h1,rfl,h2⟩
  all_goals first
   |(exact yls hM (by assumption) (by assumption) (hp _ (by simp)))
   |(exact hp _ (by simp))) ht
def hasC (s:ByteArray) (c:Int) (k:Nat):Bool:=((ycp s k).toNat:Int)==c
def noC (s:ByteArray) (ch:Int):Bool:=(List.range s.size).all fun i=>!hasC s ch i
theorem noC_bad {s:ByteArray} {c:Int} {k:Nat} (h:k<s.size) (hb:hasC s c k=true):noC s c=false:=yhp h hb
theorem noC_all {s:ByteArray} {c:Int} (h:∀ k,k<s.size→hasC s c k=false):noC s c=true:=yhq h
def hasG (s:ByteArray) (ch:Int) (c:Code):SSt Lab→Option (Tr Lab):=fun st=>match yab 0 st.base,yab 1 st.base,yab 5 st.base,st.mem,ycm 0 st.base with
 |some (.c (.one (.v (.string s')))),some (.c (.one (.v (.int .u8 c')))),some (.c (.one (.kI .i64 (.ofNat 0)))),[],true=>some (.need [s'=s,c'=ch] (.br (noC s ch) (.leaf (.exit 0) (xSt (yah c) [] st)) (.leaf .ret (xSt (yah c) [(4,.c (.one (.kB true)))] st))))
 |_,_,_,_,_=>none
theorem hasG_ok (s:ByteArray) (ch:Int) (hmax:s.size≤9223372036854775807) {W0:World} {G:Nat→Prop} (hS:SyOk ⟨Try.prog,[],[],yck,labI.one,40⟩ labI W0 G):ycr ⟨Try.prog,[],[],yck,labI.one,40⟩ labI W0 G 17 (hdC (ybe (yat Try.f255)) 0) (hasG s ch (hdC (ybe (yat Try.f255)) 0)):=by
 intro st t h
 unfold hasG at h
 split at h
 case h_2=>cases h
 rename_i s' c' h0 h1 h5 hm hsc
 simp only [Option.some.injEq] at h
 subst h
 refine ⟨⟨yb2 (by kernel_rfl),yb2 (by kernel_rfl)⟩,fun KK hT Q a w e hf hM hQ=>?_⟩
 obtain rfl:s=s':=(hT.1 _ (zal ..)).symm
 obtain rfl:ch=c':=(hT.1 _ (zak _ (zal ..))).symm
 refine yeu (L:=[]) hS (LpsOk.nil _) (M0:=([]:Mem Lab)) (V:=fun k=>[(5,svV (.int .i64 (k:Int)))]) (R:=[(0,svV (.string s)),(1,svV (.int .u8 ch))]) (N:=s.size)
  (Ux:=fun k x=>match x with|.exit 0=>some []|.ret=>some [(4,.c (.one (.kB true)))]|_=>none) (X:=fun k x=>match x with|.exit 0=>noC s ch=true|.ret=>k<s.size∧hasC s ch k=true|_=>False)
  (J:=fun k=>∀ j,j<k→hasC s ch j=false)
  (fun en h=>by cases h) rfl (fun k=>⟨by kernel_rfl,rfl⟩) (fun k x U hU=>?_) (fun j hj=>absurd hj (by omega)) (fun k hk hJ base ver=>?_) hm ⟨?_,trivial⟩ ⟨by rw [h0];rfl,by rw [h1];rfl,trivial⟩ hsc hT (fun k x U hk hU hX hT=>?_) hf hM hQ
 ·split at hU
  ·simp only [Option.some.injEq] at hU;subst hU;exact ⟨rfl,rfl⟩
  ·simp only [Option.some.injEq] at hU;subst hU;exact ⟨by kernel_rfl,rfl⟩
  ·cases hU
 ·refine Eq.mp (α:=(decide ((k:Int)<(s.size:Int))=true→(∀ p∈[yc3 (k:Int) s.size],p)∧
    ((hasC s ch k=true→([]:Mem Lab)=([]:Mem Lab)∧(k<s.size∧hasC s ch k=true)∧svV (.bool true)=svV (.bool true)∧True)∧
     (hasC s ch k=false→([]:Mem Lab)=([]:Mem Lab)∧(k<s.size∧∀ j,j<k+1→hasC s ch j=false)∧svV (.int .i64 (IntKind.i64.wrap ((k:Int)+1)))=svV (.int .i64 ((k+1:Nat):Int))∧True)))∧
   (decide ((k:Int)<(s.size:Int))=false→([]:Mem Lab)=([]:Mem Lab)∧noC s ch=true∧True)) (by kernel_rfl) ?_
  have hmax:(s.size:Nat)≤9223372036854775807:=hmax
  refine ⟨fun hlt=>?_,fun hge=>⟨rfl,noC_all fun j hj=>hJ j (by have:=of_decide_eq_false hge;omega),trivial⟩⟩
  have hlt:k<s.size:=by have:=of_decide_eq_true hlt;omega
  have hid:yc3 (k:Int) (s.size):=⟨by omega,by omega⟩
  refine ⟨fun p hp=>?_,fun hb=>⟨rfl,⟨hlt,hb⟩,rfl,trivial⟩,fun hb=>⟨rfl,⟨hlt,fun j hj=>?_⟩,?_,trivial⟩⟩
  ·simp only [List.mem_cons,zbc,or_false] at hp
   rcases hp with rfl
   ·first|exact hid|exact fun _=>hid|exact obx
  ·rcases Nat.lt_succ_iff_lt_or_eq.1 hj with h|rfl
   ·exact hJ j h
   ·exact hb
  ·rw [IntWalk.i64_in _ (by omega)];rfl
 ·show EqO (yab 5 st.base) _
  rw [h5];rfl
 ·split at hU
  ·simp only [Option.some.injEq] at hU;subst hU
   exact hT.2.1 hX
  ·simp only [Option.some.injEq] at hU;subst hU
   obtain ⟨h1,h2⟩:k<s.size∧hasC s ch k=true:=hX
   exact hT.2.2 (noC_bad h1 h2)
  ·cases hU
theorem rhas_c (s:ByteArray) (ch:Int) (w:World) (hmax:s.size≤9223372036854775807):Calls Try.prog 255 #[.string s,.int .u8 ch] w fun e w'=>e=.returned (.bool (cond (noC s ch) false true))∧Ext w w':=
 yep (S:=⟨Try.prog,[],[],yck,labI.one,40⟩) (I:=labI) (L:=[(2,hasG s ch (hdC (ybe (yat Try.f255)) 0))]) (args:=[.one (.v (.string s)),.one (.v (.int .u8 ch))]) (us:=[.string s,.int .u8 ch]) (e:=[]) (mem:=[]) (SyOk.mk' Try.mixed (FnsOk.nil) (EqsOk.nil)) Try.func255 (by kernel_rfl) (lps1 (by kernel_rfl) (hasG_ok s ch hmax (SyOk.mk' Try.mixed FnsOk.nil EqsOk.nil))) ⟨rfl,rfl,trivial⟩ (by kernel_rfl) (ybx _ w) [s=s,ch=ch] (by kernel_rfl) (by kernel_rfl) (by simp)
def F_rhas:Nat×Fn2 Lab:=(255,fun us mem=>match us with|[.one a0,.one a1]=>(match valP a0 with|some (.string s)=>(match valP a1 with|some (.int .u8 ch)=>some ([s.size≤9223372036854775807],svV (.bool (cond (noC s ch) false true)),none)|_=>none)|_=>none)|_=>none)
theorem F_rhas_ok {W0:World} {G:Nat→Prop} {F:Fns Lab} (ht:FnsOk Try.prog labI W0 G F):FnsOk Try.prog labI W0 G (F_rhas::F):=
 FnsOk.cons Try.call255 (fun args mem ps r mo h hp w e us hM ha=>by
  repeat' split at h
  all_goals first
   |(cases h;done)
   |skip
  simp only [Option.some.injEq,Prod.mk.injEq] at h
  obtain ⟨rfl,rfl,rfl⟩:=h
  simp only [yba,ybk] at ha
  obtain ⟨u0,t0,rfl,hc0,u1,t1,rfl,hc1,rfl⟩:=ha
  obtain rfl:=yad (by assumption) (show PV.is e _ _ from hc0)
  obtain rfl:=yad (by assumption) (show PV.is e _ _ from hc1)
  refine (rhas_c _ _ w  ?_).mono fun x w' ⟨h1,h2⟩=>⟨_,h1,rfl,h2⟩
  all_goals first
   |(exact yls hM (by assumption) (by assumption) (hp _ (by simp)))
   |(exact hp _ (by simp))) ht
def rfileB (x y:Int):Bool:=decide (x>0)&&decide (x<41)&&decide (y≥0)&&decide (y<2147483648)
def rcountB (x:Int):Bool:=decide (x>0)&&decide (x<1099511627776)
theorem rfile_c (x y:Int) (w:World):Calls Try.prog 256 #[.agg #[.int .i64 x,.int .i64 y]] w fun e w'=>e=.returned (.bool (rfileB x y))∧Ext w w':=
 yep (S:=⟨Try.prog,[],[],yck,labI.one,40⟩) (I:=labI) (L:=[]) (args:=[.agg [.v (.int .i64 x),.v (.int .i64 y)]]) (us:=[.agg #[.int .i64 x,.int .i64 y]]) (e:=[]) (mem:=[]) (SyOk.mk' Try.mixed (FnsOk.nil) (EqsOk.nil)) Try.func256 (by kernel_rfl) (LpsOk.nil _) ⟨⟨[.int .i64 x,.int .i64 y],⟨rfl,rfl,trivial⟩,rfl⟩,trivial⟩ (by kernel_rfl) (ybx _ w) [] (by kernel_rfl) (by kernel_rfl) (by simp)
def F_rfile:Nat×Fn2 Lab:=(256,fun us mem=>match us with|[.agg a0]=>(match a0 with|[b0_0,b0_1]=>(match valP b0_0 with|some (.int .i64 x)=>(match valP b0_1 with|some (.int .i64 y)=>some ([],svV (.bool (rfileB x y)),none)|_=>none)|_=>none)|_=>none)|_=>none)
theorem ywx {W0:World} {G:Nat→Prop} {F:Fns Lab} (ht:FnsOk Try.prog labI W0 G F):FnsOk Try.prog labI W0 G (F_rfile::F):=
 FnsOk.cons Try.call256 (fun args mem ps r mo h hp w e us hM ha=>by
  repeat' split at h
  all_goals first
   |(cases h;done)
   |skip
  simp only [Option.some.injEq,Prod.mk.injEq] at h
  obtain ⟨rfl,rfl,rfl⟩:=h
  simp only [yba,ybk] at ha
  obtain ⟨u0,t0,rfl,hc0,rfl⟩:=ha
  obtain ⟨xs0,hxs0,rfl⟩:=hc0
  simp only [ydk,yd4] at hxs0
  obtain ⟨y0_0,s0_0,rfl,hb0_0,y0_1,s0_1,rfl,hb0_1,rfl⟩:=hxs0
  obtain rfl:=yad (by assumption) hb0_0
  obtain rfl:=yad (by assumption) hb0_1
  refine (rfile_c _ _ w ).mono fun x w' ⟨h1,h2⟩=>⟨_,h1,rfl,h2⟩
  all_goals skip) ht
theorem rcount_c (x:Int) (w:World):Calls Try.prog 219 #[.int .u64 x] w fun e w'=>e=.returned (.bool (rcountB x))∧Ext w w':=
 yep (S:=⟨Try.prog,[],[],yck,labI.one,40⟩) (I:=labI) (L:=[]) (args:=[.one (.v (.int .u64 x))]) (us:=[.int .u64 x]) (e:=[]) (mem:=[]) (SyOk.mk' Try.mixed (FnsOk.nil) (EqsOk.nil)) Try.func219 (by kernel_rfl) (LpsOk.nil _) ⟨rfl,trivial⟩ (by kernel_rfl) (ybx _ w) [] (by kernel_rfl) (by kernel_rfl) (by simp)
def yuz:Nat×Fn2 Lab:=(219,fun us mem=>match us with|[.one a0]=>(match valP a0 with|some (.int .u64 x)=>some ([],svV (.bool (rcountB x)),none)|_=>none)|_=>none)
theorem ys5 {W0:World} {G:Nat→Prop} {F:Fns Lab} (ht:FnsOk Try.prog labI W0 G F):FnsOk Try.prog labI W0 G (yuz::F):=
 FnsOk.cons Try.call219 (fun args mem ps r mo h hp w e us hM ha=>by
  repeat' split at h
  all_goals first
   |(cases h;done)
   |skip
  simp only [Option.some.injEq,Prod.mk.injEq] at h
  obtain ⟨rfl,rfl,rfl⟩:=h
  simp only [yba,ybk] at ha
  obtain ⟨u0,t0,rfl,hc0,rfl⟩:=ha
  obtain rfl:=yad (by assumption) (show PV.is e _ _ from hc0)
  refine (rcount_c _ w ).mono fun x w' ⟨h1,h2⟩=>⟨_,h1,rfl,h2⟩
  all_goals skip) ht
end Mm
namespace Mm
def E_ent:TypeId×(List Value→List Value→Option Bool):=(129,fun u v=>match u,v with
 |[.string s,.int .i64 a,.int .i64 b,.int .i64 c],[.string s',.int .i64 a',.int .i64 b',.int .i64 c']=>some (s.toList==s'.toList&&(a==a'&&b==b')&&c==c')
 |_,_=>none)
theorem yu9 {E:EqFns} (ht:∀ ty g,ygw ty E=some g→Try.prog.eqGuardType Try.prog.depth ty=false∧∀ (u v:Array Value) b,g u.toList v.toList=some b→∀ w,(Op.equal ty (.agg u) (.agg v)).run Try.prog w=.ok b w):
  ∀ ty' g',ygw ty' (E_ent::E)=some g'→Try.prog.eqGuardType Try.prog.depth ty'=false∧∀ (u v:Array Value) b,g' u.toList v.toList=some b→∀ w,(Op.equal ty' (.agg u) (.agg v)).run Try.prog w=.ok b w:=
 EqsOk.cons (by kernel_rfl) (fun u v r h w=>by
  split at h
  ·rename_i s a b c s' a' b' c' h1 h2
   simp only [Option.some.injEq] at h
   subst h
   obtain rfl:u=#[.string s,.int .i64 a,.int .i64 b,.int .i64 c]:=Array.ext' h1
   obtain rfl:v=#[.string s',.int .i64 a',.int .i64 b',.int .i64 c']:=Array.ext' h2
   show (Op.equalIn 10000 129 _ _).run Try.prog w=_
   by_cases hs:s.toList=s'.toList<;>by_cases ha:a=a'<;>by_cases hb:b=b'<;>by_cases hc:c=c'<;>simp [go_sem,hs,ha,hb,hc]
  ·cases h) ht
def neE (l m:List Ent) (k:Nat):Bool:=!((entAt l k).nm.toList==(entAt m k).nm.toList&&((entAt l k).ino==(entAt m k).ino&&(entAt l k).gen==(entAt m k).gen)&&(entAt l k).kind==(entAt m k).kind)
def eqE (l m:List Ent):Bool:=(List.range l.length).all fun i=>!neE l m i
theorem eqE_bad {l m:List Ent} {k:Nat} (h:k<l.length) (hb:neE l m k=true):eqE l m=false:=yhp h hb
theorem eqE_all {l m:List Ent} (h:∀ k,k<l.length→neE l m k=false):eqE l m=true:=yhq h
theorem yaa {q:Prop} {l:List Prop} (h:q) (t:∀ p∈l,p):∀ p∈q::l,p:=fun p hp=>by rcases List.mem_cons.1 hp with rfl|hp;exact h;exact t p hp
theorem mnil:∀ p∈([]:List Prop),p:=fun p hp=>by cases hp
theorem ypl {a b:Int} (h:(a != b)=false):a=b:=by simpa using h
def sameE (l m:List Ent):Bool:=cond (((l.length:Nat):Int) != ((m.length:Nat):Int)) false (cond (eqE l m) true false)
def rsameG (l m:List Ent) (c:Code):SSt Lab→Option (Tr Lab):=fun st=>match yab 0 st.base,yab 1 st.base,yab 5 st.base,st.mem,ycm 2 st.base with
 |some (.c (.one (.obj 0))),some (.c (.one (.obj 1))),some (.c (.one (.kI .i64 (.ofNat 0)))),[⟨.sl K' lb',false⟩,⟨.sl K2' lb2',false⟩],true=>some (.need [K'=entKS l,lb'=.ents l,K2'=entKS m,lb2'=.ents m,l.length=m.length] (.br (eqE l m) (.leaf (.exit 0) (xSt (yah c) [] st)) (.leaf .ret (xSt (yah c) [(4,.c (.one (.kB false)))] st))))
 |_,_,_,_,_=>none
theorem rsameG_ok (l m:List Ent) (hmax:l.length≤9223372036854775807) {W0:World} {G:Nat→Prop} (hS:SyOk ⟨Try.prog,[],[E_ent],yck,labI.one,40⟩ labI W0 G):ycr ⟨Try.prog,[],[E_ent],yck,labI.one,40⟩ labI W0 G 26 (hdC (ybe (yat Try.f80)) 0) (rsameG l m (hdC (ybe (yat Try.f80)) 0)):=by
 intro st t h
 unfold rsameG at h
 split at h
 case h_2=>cases h
 rename_i K' lb' K2' lb2' h0 h1 h5 hm hsc
 simp only [Option.some.injEq] at h
 subst h
 refine ⟨⟨yb2 (by kernel_rfl),yb2 (by kernel_rfl)⟩,fun KK hT Q a w e hf hM hQ=>?_⟩
 obtain rfl:entKS l=K':=(hT.1 _ (zal ..)).symm
 obtain rfl:.ents l=lb':=(hT.1 _ (zak _ (zal ..))).symm
 obtain rfl:entKS m=K2':=(hT.1 _ (zak _ (zak _ (zal ..)))).symm
 obtain rfl:.ents m=lb2':=(hT.1 _ (zak _ (zak _ (zak _ (zal ..))))).symm
 have hEQ:l.length=m.length:=hT.1 _ (zak _ (zak _ (zak _ (zak _ (zal ..)))))
 refine yeu (L:=[]) hS (LpsOk.nil _) (M0:=[enS l,enS m]) (V:=fun k=>[(5,svV (.int .i64 (k:Int)))]) (R:=[(0,.c (.one (.obj 0))),(1,.c (.one (.obj 1)))]) (N:=l.length)
  (Ux:=fun k x=>match x with|.exit 0=>some []|.ret=>some [(4,.c (.one (.kB false)))]|_=>none) (X:=fun k x=>match x with|.exit 0=>eqE l m=true|.ret=>k<l.length∧neE l m k=true|_=>False)
  (J:=fun k=>∀ j,j<k→neE l m j=false)
  (fun en h=>by rcases List.mem_cons.1 h with rfl|h;exact fun i=>rfl;rcases List.mem_cons.1 h with rfl|h;exact fun i=>rfl;cases h) rfl (fun k=>⟨by kernel_rfl,rfl⟩) (fun k x U hU=>?_) (fun j hj=>absurd hj (by omega)) (fun k hk hJ base ver=>?_) hm ⟨?_,trivial⟩ ⟨by rw [h0];rfl,by rw [h1];rfl,trivial⟩ hsc hT (fun k x U hk hU hX hT=>?_) hf hM hQ
 ·split at hU
  ·simp only [Option.some.injEq] at hU;subst hU;exact ⟨rfl,rfl⟩
  ·simp only [Option.some.injEq] at hU;subst hU;exact ⟨by kernel_rfl,rfl⟩
  ·cases hU
 ·refine Eq.mp (α:=(decide ((k:Int)<(l.length:Int))=true→(∀ p∈[yc3 (k:Int) m.length,yc3 (k:Int) l.length],p)∧
    ((neE l m k=true→[enS l,enS m]=[enS l,enS m]∧(k<l.length∧neE l m k=true)∧svV (.bool false)=svV (.bool false)∧True)∧
     (neE l m k=false→[enS l,enS m]=[enS l,enS m]∧(k<l.length∧∀ j,j<k+1→neE l m j=false)∧svV (.int .i64 (IntKind.i64.wrap ((k:Int)+1)))=svV (.int .i64 ((k+1:Nat):Int))∧True)))∧
   (decide ((k:Int)<(l.length:Int))=false→[enS l,enS m]=[enS l,enS m]∧eqE l m=true∧True)) (by kernel_rfl) ?_
  have hmax:(l.length:Nat)≤9223372036854775807:=hmax
  refine ⟨fun hlt=>?_,fun hge=>⟨rfl,eqE_all fun j hj=>hJ j (by have:=of_decide_eq_false hge;omega),trivial⟩⟩
  have hlt:k<l.length:=by have:=of_decide_eq_true hlt;omega
  have hid:yc3 (k:Int) (l.length):=⟨by omega,by omega⟩
  refine ⟨fun p hp=>?_,fun hb=>⟨rfl,⟨hlt,hb⟩,rfl,trivial⟩,fun hb=>⟨rfl,⟨hlt,fun j hj=>?_⟩,?_,trivial⟩⟩
  ·simp only [List.mem_cons,zbc,or_false] at hp
   rcases hp with rfl|rfl
   all_goals first|exact hid|exact hEQ▸hid
  ·rcases Nat.lt_succ_iff_lt_or_eq.1 hj with h|rfl
   ·exact hJ j h
   ·exact hb
  ·rw [IntWalk.i64_in _ (by omega)];rfl
 ·show EqO (yab 5 st.base) _
  rw [h5];rfl
 ·split at hU
  ·simp only [Option.some.injEq] at hU;subst hU
   exact hT.2.1 hX
  ·simp only [Option.some.injEq] at hU;subst hU
   obtain ⟨h1,h2⟩:k<l.length∧neE l m k=true:=hX
   exact hT.2.2 (eqE_bad h1 h2)
  ·cases hU
theorem rsame_c (l:List Ent) (v:Value) (m:List Ent) (u:Value) (w:World) (hv:Es w v l) (hu:Es w u m):Calls Try.prog 80 #[v,u] w fun e w'=>e=.returned (.bool (sameE l m))∧Ext w w':=
 yep (S:=⟨Try.prog,[],[E_ent],yck,labI.one,40⟩) (I:=labI) (L:=[(4,rsameG l m (hdC (ybe (yat Try.f80)) 0))]) (args:=[.one (.obj 0),.one (.obj 1)]) (us:=[v,u]) (e:=[v,u]) (mem:=[enS l,enS m]) (SyOk.mk' Try.mixed (FnsOk.nil) (yu9 (EqsOk.nil))) Try.func80 (by kernel_rfl) (lps1 (by kernel_rfl) (rsameG_ok l m hv.max (SyOk.mk' Try.mixed FnsOk.nil (yu9 EqsOk.nil)))) ⟨rfl,rfl,trivial⟩ (by kernel_rfl) (memOk_es2 hv hu) [(((l.length:Nat):Int) != ((m.length:Nat):Int))=false→entKS l=entKS l,(((l.length:Nat):Int) != ((m.length:Nat):Int))=false→Lab.ents l=Lab.ents l,(((l.length:Nat):Int) != ((m.length:Nat):Int))=false→entKS m=entKS m,(((l.length:Nat):Int) != ((m.length:Nat):Int))=false→Lab.ents m=Lab.ents m,(((l.length:Nat):Int) != ((m.length:Nat):Int))=false→l.length=m.length] (by kernel_rfl) (by kernel_rfl) ((yaa (fun _=>rfl) (yaa (fun _=>rfl) (yaa (fun _=>rfl) (yaa (fun _=>rfl) (yaa (fun h=>Int.ofNat.inj (ypl h)) mnil))))))
def ylk:Nat×Fn2 Lab:=(80,fun us mem=>match us with|[.one (.obj o_v),.one (.obj o_u)]=>(match mem[o_v]? with|some ⟨.sl K_v (.ents l),_⟩=>(match mem[o_u]? with|some ⟨.sl K_u (.ents m),_⟩=>some ([K_v=entKS l,K_u=entKS m],svV (.bool (sameE l m)),none)|_=>none)|_=>none)|_=>none)
theorem ymp {W0:World} {G:Nat→Prop} {F:Fns Lab} (ht:FnsOk Try.prog labI W0 G F):FnsOk Try.prog labI W0 G (ylk::F):=
 FnsOk.cons Try.call80 (fun args mem ps r mo h hp w e us hM ha=>by
  repeat' split at h
  all_goals first
   |(cases h;done)
   |skip
  simp only [Option.some.injEq,Prod.mk.injEq] at h
  obtain ⟨rfl,rfl,rfl⟩:=h
  simp only [yba,ybk] at ha
  obtain ⟨u0,t0,rfl,hc0,u1,t1,rfl,hc1,rfl⟩:=ha
  refine (rsame_c _ _ _ _ w ?_ ?_).mono fun x w' ⟨h1,h2⟩=>⟨_,h1,rfl,h2⟩
  all_goals first
   |(exact yls hM (by assumption) (by assumption) (hp _ (by simp)))
   |(exact hp _ (by simp))) ht
end Mm
namespace Mm
structure Msg where
 (ty cl ss sq bo kd er f1 f2 d1 d2:Int)
 (nm ot:ByteArray)
 (mo pl:Int)
 (da:ByteArray)
 (ve:Int)
 (en:List Ent)
def eqS (a b:ByteArray):Bool:=a.toList==b.toList
def HI (x:Bool):Prop:=x=true
end Mm
namespace Mm
end Mm
end Go.Proofs.Ytiiekgcjilelpaa
