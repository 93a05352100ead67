/- J43 J41 J40 J42 J78 J50. -/
import Derived.Test.YtiiekgcjilelpaaJ3p
import Derived.Test.YtiiekgcjilelpaaJ2p
import Derived.Test.YtiiekgcjilelpaaJM9p
import Derived.Test.YtiiekgcjilelpaaJM15p
open List renaming length_append → zae, mem_cons_self → zal
set_option maxRecDepth 100000
set_option linter.unusedSimpArgs false
set_option linter.unusedVariables false
namespace Go.Proofs.Ytiiekgcjilelpaa
open Go.RowKit
def fiB (a b:Int):List Bool:=yaf (IntKind.u64.wrap a).toNat 6++yaf (IntKind.u64.wrap b).toNat 31
theorem rfi_w0 (a b:Int) :∃ qs,wayO Id' ([]:Mem Td).length [⟨.us (.bts (fiB a b)),true⟩] (.c (.one (.obj 0))) ((ybu (⟨Try.prog,[(yci (hx:=yag):Nat×Fn2 Td)],[],dkHo,Id'.one,60⟩:Sy Td) [] Try.f145 [.agg [.v (.int .i64 a),.v (.int .i64 b)]] []).al [])=some qs∧∀ q∈qs,q:=
 ⟨[(yaf (IntKind.u64.wrap a).toNat 6).length+(yaf (IntKind.u64.wrap b).toNat 31).length≤(1000000:Nat),(0:Int)≤IntKind.u64.wrap b∧IntKind.u64.wrap b<(18446744073709551616:Int),(0:Int)≤IntKind.u64.wrap a∧IntKind.u64.wrap a<(18446744073709551616:Int),(Th.bts (fiB a b):Td)=Th.bts (fiB a b)],by kernel_rfl,(by refine yaa ?_ (yaa ?_ (yaa ?_ (yaa ?_ mnil)))<;>first|(with_reducible rfl)|(exact ya1 _)|(rw [yae,yae];decide)|rfl|trivial|(exact ya1 _)|(exact fun w u k h=>h))⟩
def C_rfi:Ctr Td:=fun us sub=>match us,sub with
 |[.agg [.v (.int .i64 a),.v (.int .i64 b)]],[]=>some ([],.c (.one (.obj 0)),[⟨.us (.bts (fiB a b)),true⟩])
 |_,_=>none
theorem C_rfi_ok:CtrOk Try.prog Id' 145 C_rfi:=by
 intro us sub ps x sm h hp w e vs hM ha
 unfold C_rfi at h
 split at h
 ·rename_i a b
  simp only [Option.some.injEq,Prod.mk.injEq] at h
  obtain ⟨rfl,rfl,rfl⟩:=h
  exact ya6 (I:=Id') (fun (W0:World) (G:Nat→Prop)=>SyOk.mk2 Try.mixed yal (FnsR.cons (ybs (J:=dkI) (hx:=yag)) (FnsR.nil)) EqsOk.nil) rfl Try.func145 (by kernel_rfl) (fun W0 G=>LpsOk.nil _) (cs:=[]) (by kernel_rfl) (rfi_w0 a b ) w e vs hM ha
 ·cases h
theorem R_rfi:RowOk Try.prog Id' yaj 145 (ctrF Id' C_rfi yaj):=ydi Try.call145 C_rfi_ok
namespace Mm
def hasG7 (s:ByteArray) (ch:Int) (c:Code):SSt Lab→Option (Tr Lab):=fun st=>match yab 0 st.base,yab 1 st.base,yab 5 st.base,st.mem,ycm 0 st.base with
 |some (.c (.one (.v (.string s')))),some (.c (.one (.v (.int .u8 c')))),some (.c (.one (.kI .i64 (.ofNat 0)))),[],true=>some (.need [s'=s,c'=ch] (.br (noC s ch) (.leaf (.exit 0) (xSt (yah c) [] st)) (.leaf .ret (xSt (yah c) [(4,.c (.one (.kB true)))] st))))
 |_,_,_,_,_=>none
theorem hasG7_ok (s:ByteArray) (ch:Int) (hmax:s.size≤9223372036854775807) {W0:World} {G:Nat→Prop} (hS:SyOk ⟨Try.prog,[],[],yck,labI.one,40⟩ labI W0 G):ycr ⟨Try.prog,[],[],yck,labI.one,40⟩ labI W0 G 17 (hdC (ybe (yat Try.f144)) 0) (hasG7 s ch (hdC (ybe (yat Try.f144)) 0)):=by
 intro st t h
 unfold hasG7 at h
 split at h
 case h_2=>cases h
 rename_i s' c' h0 h1 h5 hm hsc
 simp only [Option.some.injEq] at h
 subst h
 refine ⟨⟨yb2 (by kernel_rfl),yb2 (by kernel_rfl)⟩,fun KK hT Q a w e hf hM hQ=>?_⟩
 obtain rfl:s=s':=(hT.1 _ (zal ..)).symm
 obtain rfl:ch=c':=(hT.1 _ (List.mem_cons_of_mem _ (zal ..))).symm
 refine yeu (L:=[]) hS (LpsOk.nil _) (M0:=([]:Mem Lab)) (V:=fun k=>[(5,svV (.int .i64 (k:Int)))]) (R:=[(0,svV (.string s)),(1,svV (.int .u8 ch))]) (N:=s.size)
  (Ux:=fun k x=>match x with|.exit 0=>some []|.ret=>some [(4,.c (.one (.kB true)))]|_=>none) (X:=fun k x=>match x with|.exit 0=>noC s ch=true|.ret=>k<s.size∧hasC s ch k=true|_=>False)
  (J:=fun k=>∀ j,j<k→hasC s ch j=false)
  (fun en h=>by cases h) rfl (fun k=>⟨by kernel_rfl,rfl⟩) (fun k x U hU=>?_) (fun j hj=>absurd hj (by omega)) (fun k hk hJ base ver=>?_) hm ⟨?_,trivial⟩ ⟨by rw [h0];rfl,by rw [h1];rfl,trivial⟩ hsc hT (fun k x U hk hU hX hT=>?_) hf hM hQ
 ·split at hU
  ·simp only [Option.some.injEq] at hU;subst hU;exact ⟨rfl,rfl⟩
  ·simp only [Option.some.injEq] at hU;subst hU;exact ⟨by kernel_rfl,rfl⟩
  ·cases hU
 ·refine Eq.mp (α:=(decide ((k:Int)<(s.size:Int))=true→(∀ p∈[yc3 (k:Int) s.size],p)∧
    ((hasC s ch k=true→([]:Mem Lab)=([]:Mem Lab)∧(k<s.size∧hasC s ch k=true)∧svV (.bool true)=svV (.bool true)∧True)∧
     (hasC s ch k=false→([]:Mem Lab)=([]:Mem Lab)∧(k<s.size∧∀ j,j<k+1→hasC s ch j=false)∧svV (.int .i64 (IntKind.i64.wrap ((k:Int)+1)))=svV (.int .i64 ((k+1:Nat):Int))∧True)))∧
   (decide ((k:Int)<(s.size:Int))=false→([]:Mem Lab)=([]:Mem Lab)∧noC s ch=true∧True)) (by kernel_rfl) ?_
  have hmax:(s.size:Nat)≤9223372036854775807:=hmax
  refine ⟨fun hlt=>?_,fun hge=>⟨rfl,noC_all fun j hj=>hJ j (by have:=of_decide_eq_false hge;omega),trivial⟩⟩
  have hlt:k<s.size:=by have:=of_decide_eq_true hlt;omega
  have hid:yc3 (k:Int) (s.size):=⟨by omega,by omega⟩
  refine ⟨fun p hp=>?_,fun hb=>⟨rfl,⟨hlt,hb⟩,rfl,trivial⟩,fun hb=>⟨rfl,⟨hlt,fun j hj=>?_⟩,?_,trivial⟩⟩
  ·simp only [List.mem_cons,List.not_mem_nil,or_false] at hp
   rcases hp with rfl
   ·first|exact hid|exact fun _=>hid|exact obx
  ·rcases Nat.lt_succ_iff_lt_or_eq.1 hj with h|rfl
   ·exact hJ j h
   ·exact hb
  ·rw [IntWalk.i64_in _ (by omega)];rfl
 ·show EqO (yab 5 st.base) _
  rw [h5];rfl
 ·split at hU
  ·simp only [Option.some.injEq] at hU;subst hU
   exact hT.2.1 hX
  ·simp only [Option.some.injEq] at hU;subst hU
   obtain ⟨h1,h2⟩:k<s.size∧hasC s ch k=true:=hX
   exact hT.2.2 (noC_bad h1 h2)
  ·cases hU
theorem rhas7_c (s:ByteArray) (ch:Int) (w:World) (hmax:s.size≤9223372036854775807):Calls Try.prog 144 #[.string s,.int .u8 ch] w fun e w'=>e=.returned (.bool (cond (Mm.noC s ch) false true))∧Ext w w':=
 yep (S:=⟨Try.prog,[],[],yck,labI.one,40⟩) (I:=labI) (L:=[(2,hasG7 s ch (hdC (ybe (yat Try.f144)) 0))]) (args:=[.one (.v (.string s)),.one (.v (.int .u8 ch))]) (us:=[.string s,.int .u8 ch]) (e:=[]) (mem:=[]) (SyOk.mk' Try.mixed (FnsOk.nil) (EqsOk.nil)) Try.func144 (by kernel_rfl) (lps1 (by kernel_rfl) (hasG7_ok s ch hmax (SyOk.mk' Try.mixed FnsOk.nil EqsOk.nil))) ⟨rfl,rfl,trivial⟩ (by kernel_rfl) (ybx _ w) [s=s,ch=ch] (by kernel_rfl) (by kernel_rfl) (by simp)
end Mm
def yc8:CtrV Td:=fun us sub=>match us,sub with
 |[.one (.v (.string s)),.one (.v (.int .u8 ch))],[]=>some ([s.size≤9223372036854775807],.bool (cond (Mm.noC s ch) false true))
 |_,_=>none
theorem C_has7_ok:ymu Try.prog Id' 144 yc8:=by
 intro us sub ps x h hp w e vs hM ha
 unfold yc8 at h
 split at h
 ·rename_i s ch
  simp only [Option.some.injEq,Prod.mk.injEq] at h
  obtain ⟨rfl,rfl⟩:=h
  have q:s.size≤9223372036854775807:=hp _ (zal ..)
  match vs,ha with
  |[u,v],⟨a0,a1,_⟩=>
   have h0:u=.string s:=a0
   have h1:v=.int .u8 ch:=a1
   rw [h0,h1]
   exact Mm.rhas7_c s ch w q
 ·cases h
theorem yfo:RowOk Try.prog Id' yaj 144 (ctrV yc8 yaj):=yk5 Try.call144 C_has7_ok
def C_fld:CtrV Td:=fun us sub=>match us,sub with
 |[.one (.v (.bool r)),.one (.v (.int .i64 kd))],[]=>some ([1≤kd∧kd≤14],.string (Mm.fieldsS r kd))
 |_,_=>none
theorem C_fld_ok:ymu Try.prog Id' 221 C_fld:=by
 intro us sub ps x h hp w e vs hM ha
 unfold C_fld at h
 split at h
 ·rename_i r kd
  simp only [Option.some.injEq,Prod.mk.injEq] at h
  obtain ⟨rfl,rfl⟩:=h
  have q:1≤kd∧kd≤14:=hp _ (zal ..)
  match vs,ha with
  |[u,v],⟨a0,a1,_⟩=>
   have h0:u=.bool r:=a0
   have h1:v=.int .i64 kd:=a1
   rw [h0,h1]
   exact Mm.fields_c r kd w q
 ·cases h
theorem R_fld:RowOk Try.prog Id' yaj 221 (ctrV C_fld yaj):=yk5 Try.call221 C_fld_ok
def fl17 (ty kd er:Int):ByteArray:=bif ty==3 then ⟨#[102]⟩ else bif er != 0 then ⟨#[]⟩ else Mm.fieldsS (ty==2) kd
theorem fld7_w0 (R:List Rw) (ty cl ss sq bo kd er f1 f2 d1 d2:Int) (nm ot:ByteArray) (mo pl:Int) (da:ByteArray) (ve:Int) (h0:(ty==3)=true):∃ qs,wayV ((ybu (⟨Try.prog,[(221,ctrV C_fld yaj)],[],dkHo,Id'.one,60⟩:Sy Td) [] Try.f143 [.agg [.v (.int .i64 ty),.v (.int .i64 cl),.v (.int .u64 ss),.v (.int .u64 sq),.v (.int .u64 bo),.v (.int .i64 kd),.v (.int .i64 er),.v (.int .i64 f1),.v (.int .i64 f2),.v (.int .i64 d1),.v (.int .i64 d2),.v (.string nm),.v (.string ot),.v (.int .i64 mo),.v (.int .i64 pl),.v (.string da),.v (.int .u64 ve),.obj 0]] (roM [⟨.us (.ext (.vw [true,false,false,false] R)),false⟩])).al [true]) (fun u=>u=.string (fl17 ty kd er))=some qs∧∀ q∈qs,q:=
 ⟨[Value.string (ByteArray.mk #[(102:UInt8)])=Value.string (fl17 ty kd er),(ty==(3:Int))=true],by kernel_rfl,(by refine yaa ?_ (yaa ?_ mnil)<;>first|(with_reducible assumption)|(with_reducible rfl)|rfl|exact h0|trivial|(exact congrArg Value.string (show _=fl17 ty kd er by rw [fl17,h0,h1];rfl))|(exact congrArg Value.string (show _=fl17 ty kd er by rw [fl17,h0];rfl)))⟩
theorem fld7_w1 (R:List Rw) (ty cl ss sq bo kd er f1 f2 d1 d2:Int) (nm ot:ByteArray) (mo pl:Int) (da:ByteArray) (ve:Int) (h0:(ty==3)=false) (h1:(er != 0)=true):∃ qs,wayV ((ybu (⟨Try.prog,[(221,ctrV C_fld yaj)],[],dkHo,Id'.one,60⟩:Sy Td) [] Try.f143 [.agg [.v (.int .i64 ty),.v (.int .i64 cl),.v (.int .u64 ss),.v (.int .u64 sq),.v (.int .u64 bo),.v (.int .i64 kd),.v (.int .i64 er),.v (.int .i64 f1),.v (.int .i64 f2),.v (.int .i64 d1),.v (.int .i64 d2),.v (.string nm),.v (.string ot),.v (.int .i64 mo),.v (.int .i64 pl),.v (.string da),.v (.int .u64 ve),.obj 0]] (roM [⟨.us (.ext (.vw [true,false,false,false] R)),false⟩])).al [false,true]) (fun u=>u=.string (fl17 ty kd er))=some qs∧∀ q∈qs,q:=
 ⟨[Value.string (ByteArray.mk #[])=Value.string (fl17 ty kd er),(ty==(3:Int))=false,(er != (0:Int))=true],by kernel_rfl,(by refine yaa ?_ (yaa ?_ (yaa ?_ mnil))<;>first|(with_reducible assumption)|(with_reducible rfl)|rfl|exact h0|exact h1|trivial|(exact congrArg Value.string (show _=fl17 ty kd er by rw [fl17,h0,h1];rfl))|(exact congrArg Value.string (show _=fl17 ty kd er by rw [fl17,h0];rfl)))⟩
theorem fld7_w2 (R:List Rw) (ty cl ss sq bo kd er f1 f2 d1 d2:Int) (nm ot:ByteArray) (mo pl:Int) (da:ByteArray) (ve:Int) (h0:(ty==3)=false) (h1:(er != 0)=false) (h2:1≤kd∧kd≤14):∃ qs,wayV ((ybu (⟨Try.prog,[(221,ctrV C_fld yaj)],[],dkHo,Id'.one,60⟩:Sy Td) [] Try.f143 [.agg [.v (.int .i64 ty),.v (.int .i64 cl),.v (.int .u64 ss),.v (.int .u64 sq),.v (.int .u64 bo),.v (.int .i64 kd),.v (.int .i64 er),.v (.int .i64 f1),.v (.int .i64 f2),.v (.int .i64 d1),.v (.int .i64 d2),.v (.string nm),.v (.string ot),.v (.int .i64 mo),.v (.int .i64 pl),.v (.string da),.v (.int .u64 ve),.obj 0]] (roM [⟨.us (.ext (.vw [true,false,false,false] R)),false⟩])).al [false,false]) (fun u=>u=.string (fl17 ty kd er))=some qs∧∀ q∈qs,q:=
 ⟨[Value.string (Mm.fieldsS (ty==(2:Int)) kd)=Value.string (fl17 ty kd er),(ty==(3:Int))=false,(er != (0:Int))=false,(1:Int)≤kd∧kd≤(14:Int)],by kernel_rfl,(by refine yaa ?_ (yaa ?_ (yaa ?_ (yaa ?_ mnil)))<;>first|(with_reducible assumption)|(with_reducible rfl)|rfl|exact h0|exact h1|exact h2|trivial|(exact congrArg Value.string (show _=fl17 ty kd er by rw [fl17,h0,h1];rfl))|(exact congrArg Value.string (show _=fl17 ty kd er by rw [fl17,h0];rfl)))⟩
def yc9:CtrV Td:=fun us sub=>match us,sub with
 |[.agg [.v (.int .i64 ty),.v (.int .i64 cl),.v (.int .u64 ss),.v (.int .u64 sq),.v (.int .u64 bo),.v (.int .i64 kd),.v (.int .i64 er),.v (.int .i64 f1),.v (.int .i64 f2),.v (.int .i64 d1),.v (.int .i64 d2),.v (.string nm),.v (.string ot),.v (.int .i64 mo),.v (.int .i64 pl),.v (.string da),.v (.int .u64 ve),.obj 0]],[⟨.us (.ext (.vw [true,false,false,false] R)),false⟩]=>some ([ty=3∨er≠0∨(1≤kd∧kd≤14)],.string (fl17 ty kd er))
 |_,_=>none
theorem C_fld7_ok:ymu Try.prog Id' 143 yc9:=by
 intro us sub ps x h hp w e vs hM ha
 unfold yc9 at h
 split at h
 ·rename_i ty cl ss sq bo kd er f1 f2 d1 d2 nm ot mo pl da ve R
  simp only [Option.some.injEq,Prod.mk.injEq] at h
  obtain ⟨rfl,rfl⟩:=h
  have hk:ty=3∨er≠0∨(1≤kd∧kd≤14):=hp _ (zal ..)
  cases h0:(ty==3) with
  |true=>exact yn8 (I:=Id') (fun (W0:World) (G:Nat→Prop)=>SyOk.mk2 Try.mixed yal (FnsR.cons (R_fld) (FnsR.nil)) EqsOk.nil) rfl Try.func143 (by kernel_rfl) (fun W0 G=>LpsOk.nil _) (cs:=[true]) (by kernel_rfl) (fld7_w0 R ty cl ss sq bo kd er f1 f2 d1 d2 nm ot mo pl da ve h0) w e vs hM ha
  |false=>
   cases h1:(er != 0) with
   |true=>exact yn8 (I:=Id') (fun (W0:World) (G:Nat→Prop)=>SyOk.mk2 Try.mixed yal (FnsR.cons (R_fld) (FnsR.nil)) EqsOk.nil) rfl Try.func143 (by kernel_rfl) (fun W0 G=>LpsOk.nil _) (cs:=[false,true]) (by kernel_rfl) (fld7_w1 R ty cl ss sq bo kd er f1 f2 d1 d2 nm ot mo pl da ve h0 h1) w e vs hM ha
   |false=>
    have h3:ty≠3:=beq_eq_false_iff_ne.1 h0
    have h4:er=0:=by simpa using h1
    exact yn8 (I:=Id') (fun (W0:World) (G:Nat→Prop)=>SyOk.mk2 Try.mixed yal (FnsR.cons (R_fld) (FnsR.nil)) EqsOk.nil) rfl Try.func143 (by kernel_rfl) (fun W0 G=>LpsOk.nil _) (cs:=[false,false]) (by kernel_rfl) (fld7_w2 R ty cl ss sq bo kd er f1 f2 d1 d2 nm ot mo pl da ve h0 h1 (by rcases hk with h|h|h<;>first|exact h|exact absurd h h3|exact absurd h4 h)) w e vs hM ha
 ·cases h
theorem yfp:RowOk Try.prog Id' yaj 143 (ctrV yc9 yaj):=yk5 Try.call143 C_fld7_ok
def M17 (ty cl ss sq bo kd er f1 f2 d1 d2:Int) (nm ot:ByteArray) (mo pl:Int) (da:ByteArray) (ve:Int):List Prop:=[Value.int .i64 ty=Value.int .i64 ty,Value.int .i64 cl=Value.int .i64 cl,Value.int .u64 ss=Value.int .u64 ss,Value.int .u64 sq=Value.int .u64 sq,Value.int .u64 bo=Value.int .u64 bo,Value.int .i64 kd=Value.int .i64 kd,Value.int .i64 er=Value.int .i64 er,Value.int .i64 f1=Value.int .i64 f1,Value.int .i64 f2=Value.int .i64 f2,Value.int .i64 d1=Value.int .i64 d1,Value.int .i64 d2=Value.int .i64 d2,Value.string nm=Value.string nm,Value.string ot=Value.string ot,Value.int .i64 mo=Value.int .i64 mo,Value.int .i64 pl=Value.int .i64 pl,Value.string da=Value.string da,Value.int .u64 ve=Value.int .u64 ve]
theorem yc7 (ty cl ss sq bo kd er f1 f2 d1 d2:Int) (nm ot:ByteArray) (mo pl:Int) (da:ByteArray) (ve:Int):∀ p∈M17 ty cl ss sq bo kd er f1 f2 d1 d2 nm ot mo pl da ve,p:=by
 unfold M17
 refine yaa ?_ (yaa ?_ (yaa ?_ (yaa ?_ (yaa ?_ (yaa ?_ (yaa ?_ (yaa ?_ (yaa ?_ (yaa ?_ (yaa ?_ (yaa ?_ (yaa ?_ (yaa ?_ (yaa ?_ (yaa ?_ (yaa ?_ (mnil)))))))))))))))))
 all_goals rfl
theorem allA {a b:List Prop} (ha:∀ p∈a,p) (hb:∀ p∈b,p):∀ p∈a++b,p:=fun p hp=>by
 rcases List.mem_append.1 hp with h|h
 ·exact ha p h
 ·exact hb p h
def foN (b:Td):Prop:=∀ w u k,Id'.foot b w u k→Id'.own b w u k
theorem ybf (s:WS):foN (.wr s):=fun w u k h=>h
def hdB (ty cl ss sq bo kd er:Int):List Bool:=yaf (IntKind.u64.wrap ty).toNat 2++yaf (IntKind.u64.wrap cl).toNat 3++yaf ss.toNat 40++yaf sq.toNat 40++yaf bo.toNat 40++yaf (IntKind.u64.wrap kd).toNat 4++yaf (IntKind.u64.wrap er).toNat 5
theorem yg9 (a b:Int):(fiB a b).length=37:=by unfold fiB;rw [zae,yae,yae]
theorem yhh (s:ByteArray):(ya2 s.data.toList).length=16+8 * s.size:=by
 unfold ya2;rw [zae,yae,ybr,Array.length_toList];rfl
def ap (b:Bool) (x l:List Bool):List Bool:=bif b then l++x else l
theorem ap_t {b:Bool} {x l:List Bool} (h:b=true):l++x=ap b x l:=by rw [h];rfl
theorem ap_f {b:Bool} {x l:List Bool} (h:b=false):l=ap b x l:=by rw [h];rfl
def dA0 (ty cl ss sq bo kd er f1 f2 d1 d2:Int) (nm ot:ByteArray) (mo pl:Int) (da:ByteArray) (ve:Int):List Bool:=hdB ty cl ss sq bo kd er
def dA1 (ty cl ss sq bo kd er f1 f2 d1 d2:Int) (nm ot:ByteArray) (mo pl:Int) (da:ByteArray) (ve:Int):List Bool:=ap (Mm.hasL (fl17 ty kd er) 102) (fiB f1 f2) (dA0 ty cl ss sq bo kd er f1 f2 d1 d2 nm ot mo pl da ve)
def dA2 (ty cl ss sq bo kd er f1 f2 d1 d2:Int) (nm ot:ByteArray) (mo pl:Int) (da:ByteArray) (ve:Int):List Bool:=ap (Mm.hasL (fl17 ty kd er) 100) (fiB d1 d2) (dA1 ty cl ss sq bo kd er f1 f2 d1 d2 nm ot mo pl da ve)
def dA3 (ty cl ss sq bo kd er f1 f2 d1 d2:Int) (nm ot:ByteArray) (mo pl:Int) (da:ByteArray) (ve:Int):List Bool:=ap (Mm.hasL (fl17 ty kd er) 110) (ya2 nm.data.toList) (dA2 ty cl ss sq bo kd er f1 f2 d1 d2 nm ot mo pl da ve)
def dA4 (ty cl ss sq bo kd er f1 f2 d1 d2:Int) (nm ot:ByteArray) (mo pl:Int) (da:ByteArray) (ve:Int):List Bool:=ap (Mm.hasL (fl17 ty kd er) 111) (ya2 ot.data.toList) (dA3 ty cl ss sq bo kd er f1 f2 d1 d2 nm ot mo pl da ve)
def dA5 (ty cl ss sq bo kd er f1 f2 d1 d2:Int) (nm ot:ByteArray) (mo pl:Int) (da:ByteArray) (ve:Int):List Bool:=ap (Mm.hasL (fl17 ty kd er) 107) (yaf (IntKind.u64.wrap mo).toNat 2) (dA4 ty cl ss sq bo kd er f1 f2 d1 d2 nm ot mo pl da ve)
def dA6 (ty cl ss sq bo kd er f1 f2 d1 d2:Int) (nm ot:ByteArray) (mo pl:Int) (da:ByteArray) (ve:Int):List Bool:=ap (Mm.hasL (fl17 ty kd er) 97) (yaf (IntKind.u64.wrap pl).toNat 3) (dA5 ty cl ss sq bo kd er f1 f2 d1 d2 nm ot mo pl da ve)
def dA7 (ty cl ss sq bo kd er f1 f2 d1 d2:Int) (nm ot:ByteArray) (mo pl:Int) (da:ByteArray) (ve:Int):List Bool:=ap (Mm.hasL (fl17 ty kd er) 116) (ya2 da.data.toList) (dA6 ty cl ss sq bo kd er f1 f2 d1 d2 nm ot mo pl da ve)
def dA8 (ty cl ss sq bo kd er f1 f2 d1 d2:Int) (nm ot:ByteArray) (mo pl:Int) (da:ByteArray) (ve:Int):List Bool:=ap (Mm.hasL (fl17 ty kd er) 118) (yaf ve.toNat 40) (dA7 ty cl ss sq bo kd er f1 f2 d1 d2 nm ot mo pl da ve)
def hT (ty kd er c:Int):Bool:=Mm.hasL (fl17 ty kd er) c
def M18 (g:Prop) (R:List Rw) (ty cl ss sq bo kd er f1 f2 d1 d2:Int) (nm ot:ByteArray) (mo pl:Int) (da:ByteArray) (ve:Int):List Prop:=[g→(Th.ext (Dk.vw [true,false,false,false] R):Td)=Th.ext (Dk.vw [true,false,false,false] R),g→Value.int .i64 ty=Value.int .i64 ty,g→Value.int .i64 cl=Value.int .i64 cl,g→Value.int .u64 ss=Value.int .u64 ss,g→Value.int .u64 sq=Value.int .u64 sq,g→Value.int .u64 bo=Value.int .u64 bo,g→Value.int .i64 kd=Value.int .i64 kd,g→Value.int .i64 er=Value.int .i64 er,g→Value.int .i64 f1=Value.int .i64 f1,g→Value.int .i64 f2=Value.int .i64 f2,g→Value.int .i64 d1=Value.int .i64 d1,g→Value.int .i64 d2=Value.int .i64 d2,g→Value.string nm=Value.string nm,g→Value.string ot=Value.string ot,g→Value.int .i64 mo=Value.int .i64 mo,g→Value.int .i64 pl=Value.int .i64 pl,g→Value.string da=Value.string da,g→Value.int .u64 ve=Value.int .u64 ve]
theorem yc5 (g:Prop) (R:List Rw) (ty cl ss sq bo kd er f1 f2 d1 d2:Int) (nm ot:ByteArray) (mo pl:Int) (da:ByteArray) (ve:Int):∀ p∈M18 g R ty cl ss sq bo kd er f1 f2 d1 d2 nm ot mo pl da ve,p:=by
 unfold M18
 refine yaa ?_ (yaa ?_ (yaa ?_ (yaa ?_ (yaa ?_ (yaa ?_ (yaa ?_ (yaa ?_ (yaa ?_ (yaa ?_ (yaa ?_ (yaa ?_ (yaa ?_ (yaa ?_ (yaa ?_ (yaa ?_ (yaa ?_ (yaa ?_ (mnil))))))))))))))))))
 all_goals exact fun _=>rfl
theorem dA0_len (ty cl ss sq bo kd er f1 f2 d1 d2:Int) (nm ot:ByteArray) (mo pl:Int) (da:ByteArray) (ve:Int):(dA0 ty cl ss sq bo kd er f1 f2 d1 d2 nm ot mo pl da ve).length=134:=by simp only [dA0,hdB,zae,yae]
theorem dA1_len (ty cl ss sq bo kd er f1 f2 d1 d2:Int) (nm ot:ByteArray) (mo pl:Int) (da:ByteArray) (ve:Int) (hn:nm.size≤16) (ho:ot.size≤16) (hd:da.size≤64):(dA1 ty cl ss sq bo kd er f1 f2 d1 d2 nm ot mo pl da ve).length≤171:=by
 have h:=dA0_len ty cl ss sq bo kd er f1 f2 d1 d2 nm ot mo pl da ve
 unfold dA1 ap
 cases Mm.hasL (fl17 ty kd er) 102 with
 |true=>
  rw [cond_true,zae]
  rw [yg9];omega
 |false=>
  rw [cond_false]
  omega
theorem dA2_len (ty cl ss sq bo kd er f1 f2 d1 d2:Int) (nm ot:ByteArray) (mo pl:Int) (da:ByteArray) (ve:Int) (hn:nm.size≤16) (ho:ot.size≤16) (hd:da.size≤64):(dA2 ty cl ss sq bo kd er f1 f2 d1 d2 nm ot mo pl da ve).length≤208:=by
 have h:=dA1_len ty cl ss sq bo kd er f1 f2 d1 d2 nm ot mo pl da ve hn ho hd
 unfold dA2 ap
 cases Mm.hasL (fl17 ty kd er) 100 with
 |true=>
  rw [cond_true,zae]
  rw [yg9];omega
 |false=>
  rw [cond_false]
  omega
theorem dA3_len (ty cl ss sq bo kd er f1 f2 d1 d2:Int) (nm ot:ByteArray) (mo pl:Int) (da:ByteArray) (ve:Int) (hn:nm.size≤16) (ho:ot.size≤16) (hd:da.size≤64):(dA3 ty cl ss sq bo kd er f1 f2 d1 d2 nm ot mo pl da ve).length≤352:=by
 have h:=dA2_len ty cl ss sq bo kd er f1 f2 d1 d2 nm ot mo pl da ve hn ho hd
 unfold dA3 ap
 cases Mm.hasL (fl17 ty kd er) 110 with
 |true=>
  rw [cond_true,zae]
  rw [yhh];omega
 |false=>
  rw [cond_false]
  omega
theorem dA4_len (ty cl ss sq bo kd er f1 f2 d1 d2:Int) (nm ot:ByteArray) (mo pl:Int) (da:ByteArray) (ve:Int) (hn:nm.size≤16) (ho:ot.size≤16) (hd:da.size≤64):(dA4 ty cl ss sq bo kd er f1 f2 d1 d2 nm ot mo pl da ve).length≤496:=by
 have h:=dA3_len ty cl ss sq bo kd er f1 f2 d1 d2 nm ot mo pl da ve hn ho hd
 unfold dA4 ap
 cases Mm.hasL (fl17 ty kd er) 111 with
 |true=>
  rw [cond_true,zae]
  rw [yhh];omega
 |false=>
  rw [cond_false]
  omega
theorem dA5_len (ty cl ss sq bo kd er f1 f2 d1 d2:Int) (nm ot:ByteArray) (mo pl:Int) (da:ByteArray) (ve:Int) (hn:nm.size≤16) (ho:ot.size≤16) (hd:da.size≤64):(dA5 ty cl ss sq bo kd er f1 f2 d1 d2 nm ot mo pl da ve).length≤498:=by
 have h:=dA4_len ty cl ss sq bo kd er f1 f2 d1 d2 nm ot mo pl da ve hn ho hd
 unfold dA5 ap
 cases Mm.hasL (fl17 ty kd er) 107 with
 |true=>
  rw [cond_true,zae]
  rw [yae];omega
 |false=>
  rw [cond_false]
  omega
theorem dA6_len (ty cl ss sq bo kd er f1 f2 d1 d2:Int) (nm ot:ByteArray) (mo pl:Int) (da:ByteArray) (ve:Int) (hn:nm.size≤16) (ho:ot.size≤16) (hd:da.size≤64):(dA6 ty cl ss sq bo kd er f1 f2 d1 d2 nm ot mo pl da ve).length≤501:=by
 have h:=dA5_len ty cl ss sq bo kd er f1 f2 d1 d2 nm ot mo pl da ve hn ho hd
 unfold dA6 ap
 cases Mm.hasL (fl17 ty kd er) 97 with
 |true=>
  rw [cond_true,zae]
  rw [yae];omega
 |false=>
  rw [cond_false]
  omega
theorem dA7_len (ty cl ss sq bo kd er f1 f2 d1 d2:Int) (nm ot:ByteArray) (mo pl:Int) (da:ByteArray) (ve:Int) (hn:nm.size≤16) (ho:ot.size≤16) (hd:da.size≤64):(dA7 ty cl ss sq bo kd er f1 f2 d1 d2 nm ot mo pl da ve).length≤1029:=by
 have h:=dA6_len ty cl ss sq bo kd er f1 f2 d1 d2 nm ot mo pl da ve hn ho hd
 unfold dA7 ap
 cases Mm.hasL (fl17 ty kd er) 116 with
 |true=>
  rw [cond_true,zae]
  rw [yhh];omega
 |false=>
  rw [cond_false]
  omega
theorem yst (ty cl ss sq bo kd er f1 f2 d1 d2:Int) (nm ot:ByteArray) (mo pl:Int) (da:ByteArray) (ve:Int) (hn:nm.size≤16) (ho:ot.size≤16) (hd:da.size≤64):(dA8 ty cl ss sq bo kd er f1 f2 d1 d2 nm ot mo pl da ve).length≤1069:=by
 have h:=dA7_len ty cl ss sq bo kd er f1 f2 d1 d2 nm ot mo pl da ve hn ho hd
 unfold dA8 ap
 cases Mm.hasL (fl17 ty kd er) 118 with
 |true=>
  rw [cond_true,zae]
  rw [yae];omega
 |false=>
  rw [cond_false]
  omega
end Go.Proofs.Ytiiekgcjilelpaa
