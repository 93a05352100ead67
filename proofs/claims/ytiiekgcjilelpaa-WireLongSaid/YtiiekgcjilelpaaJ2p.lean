/- T20 H10 H11 H12 H13 HG J2. -/
import Derived.Test.YtiiekgcjilelpaaT19p
import Derived.Test.YtiiekgcjilelpaaH9p
set_option linter.unusedSimpArgs false
set_option linter.unusedVariables false
namespace Go.Proofs.Ytiiekgcjilelpaa
open Go.RowKit
section
variable {β:Type} {S:Sy β} {I:ObI β} {W0:World} {G:Nat→Prop} {L:Lps β} {P:Program} {w w':World} {E e e':Env} {MEM mem ms:Mem β} {hard:β→Bool}
def enumC:Nat→List CV→List (Nat×SV)
 |_,[]=>[]
 |i,x::xs=>(i,.c x)::forceN (i+1) fun j=>enumC j xs
def resV:SV→List (Nat×SV)
 |.tup xs=>enumC 0 xs
 |x=>[(0,x)]
def lenEq:List CV→List CV→Bool
 |[],[]=>true
 |_::xs,_::ys=>lenEq xs ys
 |_,_=>false
def shEq:SV→SV→Bool
 |.tup xs,.tup ys=>lenEq xs ys
 |.c _,.c _=>true
 |_,_=>false
theorem enumC_get:∀ (xs:List CV) (i j:Nat) (x:CV),xs[j]? =some x→baseGet (i+j) (enumC i xs)=some (.c x)∧(i+j,SV.c x)∈enumC i xs
 |[],i,j,x,h=>by simp at h
 |y::ys,i,0,x,h=>by
  simp at h;subst h
  simp only [enumC,baseGet,Nat.add_zero]
  rw [eqb_eq.2 rfl]
  exact ⟨rfl,List.mem_cons_self ..⟩
 |y::ys,i,j+1,x,h=>by
  obtain ⟨h1,h2⟩:=enumC_get ys (i+1) j x (by simpa using h)
  simp only [enumC,baseGet,forceN_eq]
  rw [eqb_ne (by omega)]
  rw [show i+(j+1)=i+1+j by omega]
  exact ⟨h1,List.mem_cons_of_mem _ h2⟩
theorem lenEq_len:∀ {xs ys:List CV},lenEq xs ys=true→xs.length=ys.length
 |[],[],_=>rfl
 |_::xs,_::ys,h=>by simp [lenEq_len (xs:=xs) (ys:=ys) h]
 |[],_::_,h=>by cases h
 |_::_,[],h=>by cases h
theorem resV_is {y x:SV} (hs:shEq y x=true) {e0:Env} (h:∀ p∈resV x,∃ z,baseGet p.1 (resV y)=some z∧∀ u,z.is e u→p.2.is e0 u) {v:Value} (hv:y.is e v):x.is e0 v:=by
 cases y with
 |c y=>
  cases x with
  |c x=>
   obtain ⟨z,h1,h2⟩:=h (0,.c x) (List.mem_cons_self ..)
   simp only [resV,baseGet] at h1
   rw [eqb_eq.2 rfl] at h1
   simp only [Option.some.injEq] at h1
   subst h1
   exact h2 v hv
  |_=>cases hs
 |tup ys=>
  cases x with
  |tup xs=>
   have hl:=lenEq_len hs
   obtain ⟨us,h1,rfl⟩:=hv
   have hul:=h1.len
   refine ⟨us,?_,rfl⟩
   have gen:∀ (xs:List CV) (us:List Value),us.length=xs.length→(∀ (j:Nat) (x:CV) (u:Value),xs[j]? =some x→us[j]? =some u→x.is e0 u)→AllC e0 xs us:=by
    intro xs
    induction xs with
    |nil=>intro us h _;cases us with|nil=>trivial|cons _ _=>simp at h
    |cons x xs ih=>
     intro us h hh
     cases us with
     |nil=>simp at h
     |cons u us=>exact ⟨hh 0 x u rfl rfl,ih us (by simpa using h) fun j x' u' h1 h2=>hh (j+1) x' u' (by simpa using h1) (by simpa using h2)⟩
   refine gen xs us (by omega) fun j x u hx hu=>?_
   obtain ⟨_,h4⟩:=enumC_get xs 0 j x hx
   obtain ⟨z,h5,h6⟩:=h _ h4
   have hj:j<ys.length:=by have:=(List.getElem?_eq_some_iff.1 hx).1;omega
   obtain ⟨h7,_⟩:=enumC_get ys 0 j _ (List.getElem?_eq_getElem hj)
   have h5':baseGet (0+j) (enumC 0 ys)=some z:=h5
   rw [h7] at h5'
   cases h5'
   exact h6 u (h1.get j _ u (List.getElem?_eq_getElem hj) hu)
  |_=>cases hs
 |_=>cases hs
def wayO (I:ObI β) (k0:Nat) (X:Mem β) (x:SV) (r:Option (List Prop×SV×SSt β)):Option (List Prop):=match r with
 |some (ps,y,s)=>(match shEq y x,fitSt I k0 X (resV x) ⟨resV y,s.mem,0⟩ with
  |true,some qs=>some (ps++qs)
  |_,_=>none)
 |none=>none
theorem ctr_way (hS:∀ W0 G,SyOk S I W0 G) (hP:S.P=P) {f:FuncId} {fn:Func} (hf:P.funcs[f]? =some fn) (hb:fn.body=some (bodyOf fn)) (hL:∀ W0 G,LpsOk S I W0 G L fn.ntmps (bodyOf fn)) {us:List CV} {sub X:Mem β} {x:SV} {cs:List Bool} (hlen:leb us.length fn.ntmps=true)
  (h:∃ qs,wayO I sub.length X x ((runFn S L fn us sub).al cs)=some qs∧∀ q∈qs,q):∀ w e vs,MemOk w (FootOf I w e sub) I w e sub→AllC e us vs→
  Calls P f vs.toArray w (fun y w'=>∃ v e',y=.returned v∧Grows e e'∧x.is e' v∧MemOk w (FootOf I w e sub) I w' e' X):=by
 subst hP
 intro w e vs hM ha
 obtain ⟨qs,h1,h2⟩:=h
 unfold wayO at h1
 split at h1
 ·rename_i ps y s hr
  split at h1
  ·rename_i rs hs hfit
   simp only [Option.some.injEq] at h1
   subst h1
   refine sym_calls (hS w _) hf hb (hL w _) ha hlen hM (RT.al_holds hr fun p hp=>h2 p (List.mem_append_left _ hp)) ?_
   rintro y' s' e' w' v hg ⟨rfl,rfl⟩ hy hM'
   obtain ⟨xs,hk,hX,hV⟩:=Fit3.ok ⟨rs,hfit,fun p hp=>h2 p (List.mem_append_right _ hp)⟩ hM'
   refine ⟨v,pEnv sub.length e' xs,rfl,fun i u hu=>?_,resV_is hs hV hy,hX⟩
   have hi:i<sub.length:=by rw [← hM.len];exact (List.getElem?_eq_some_iff.1 hu).1
   rw [pEnv_lo hk xs hi]
   exact hg i u hu
  ·cases h1
 ·cases h1
def wayV (r:Option (List Prop×SV×SSt β)) (v:Value→Prop):Option (List Prop):=match r with
 |some (ps,y,s)=>(match valS (some y) with
  |some u=>some (v u::ps)
  |none=>none)
 |none=>none
theorem ctrv_way (hS:∀ W0 G,SyOk S I W0 G) (hP:S.P=P) {f:FuncId} {fn:Func} (hf:P.funcs[f]? =some fn) (hb:fn.body=some (bodyOf fn)) (hL:∀ W0 G,LpsOk S I W0 G L fn.ntmps (bodyOf fn)) {us:List CV} {sub:Mem β} {x:Value} {cs:List Bool} (hlen:leb us.length fn.ntmps=true)
  (h:∃ qs,wayV ((runFn S L fn us (roM sub)).al cs) (fun u=>u=x)=some qs∧∀ q∈qs,q):∀ w e vs,MemOk w (FootOf I w e (roM sub)) I w e (roM sub)→AllC e us vs→Calls P f vs.toArray w (fun y w'=>y=.returned x∧Ext w w'):=by
 subst hP
 intro w e vs hM ha
 obtain ⟨qs,h1,h2⟩:=h
 unfold wayV at h1
 split at h1
 ·rename_i ps y s hr
  split at h1
  ·rename_i u hu
   simp only [Option.some.injEq] at h1
   subst h1
   have hux:u=x:=h2 _ (List.mem_cons_self ..)
   subst hux
   refine sym_calls (hS w _) hf hb (hL w _) ha hlen hM (RT.al_holds hr fun p hp=>h2 p (List.mem_cons_of_mem _ hp)) ?_
   rintro y' s' e' w' v hg ⟨rfl,rfl⟩ hy hM'
   exact ⟨congrArg _ (valS_is hu (fun z hz=>by cases hz;exact hy)),ro_ext hM'.mod⟩
  ·cases h1
 ·cases h1
end
section
variable {β:Type} {S:Sy β} {I:ObI β} {L:Lps β} {P:Program}
def specG (S:Sy β) (L:Lps β) (fn:Func) (cs:List Bool):Ctr β:=fun us sub=>match leb us.length fn.ntmps,(runFn S L fn us sub).al cs with
 |true,some (ps,x,s)=>some (ps,x,s.mem)
 |_,_=>none
theorem specG_ok (hS:∀ W0 G,SyOk S I W0 G) (hP:S.P=P) {f:FuncId} {fn:Func} (hf:P.funcs[f]? =some fn) (hb:fn.body=some (bodyOf fn)) (hL:∀ W0 G,LpsOk S I W0 G L fn.ntmps (bodyOf fn)) (cs:List Bool):CtrOk P I f (specG S L fn cs):=by
 subst hP
 intro us sub ps x sm h hp w e vs hM ha
 unfold specG at h
 split at h
 ·rename_i ps' y s hlen hr
  simp only [Option.some.injEq,Prod.mk.injEq] at h
  obtain ⟨rfl,rfl,rfl⟩:=h
  refine sym_calls (hS w _) hf hb (hL w _) ha hlen hM (RT.al_holds hr hp) ?_
  rintro y' s' e' w' v hg ⟨rfl,rfl⟩ hy hM'
  exact ⟨v,e',rfl,hg,hy,hM'⟩
 ·cases h
theorem rowG_ok2 (hS:∀ W0 G,SyOk S I W0 G) (hP:S.P=P) {hard:β→Bool} {f:FuncId} {fn:Func} (hf:P.funcs[f]? =some fn) (hb:fn.body=some (bodyOf fn)) (hL:∀ W0 G,LpsOk S I W0 G L fn.ntmps (bodyOf fn)) (cs:List Bool) (he:∀ us w,(callFunc f us).run P w=.ok (.enter f us) w):
  RowOk P I hard f (ctrF I (specG S L fn cs) hard):=ctrF_ok he (specG_ok hS hP hf hb hL cs)
end
def wNum (P:Program) (f_wNum:Func):Nat×Fn2 Td:=(214,inlF Id' (⟨P,[(F_put (hx:=hardDk):Nat×Fn2 Td)],[],dkHo,Id'.one,60⟩:Sy Td) [] f_wNum [] hardD)
theorem wNum_ok:RowOk Try.prog Id' hardD (wNum Try.prog Try.f214).1 (wNum Try.prog Try.f214).2:=inlF_ok rfl (fun (W0:World) (G:Nat→Prop)=>SyOk.mk2 Try.mixed dkHo_ok (FnsR.cons (F_put_ok (J:=dkI) (hx:=hardDk)) (FnsR.nil)) EqsOk.nil) Try.func214 (by kernel_rfl) (fun _ _=>LpsOk.nil _) Try.call214
def wInt (P:Program) (f_wInt:Func):Nat×Fn2 Td:=(213,inlF Id' (⟨P,[(F_put (hx:=hardDk):Nat×Fn2 Td)],[],dkHo,Id'.one,60⟩:Sy Td) [] f_wInt [] hardD)
theorem wInt_ok:RowOk Try.prog Id' hardD (wInt Try.prog Try.f213).1 (wInt Try.prog Try.f213).2:=inlF_ok rfl (fun (W0:World) (G:Nat→Prop)=>SyOk.mk2 Try.mixed dkHo_ok (FnsR.cons (F_put_ok (J:=dkI) (hx:=hardDk)) (FnsR.nil)) EqsOk.nil) Try.func213 (by kernel_rfl) (fun _ _=>LpsOk.nil _) Try.call213
def wFile (P:Program) (f_wFile f_wInt:Func):Nat×Fn2 Td:=(215,ctrF Id' (specG (⟨P,[wInt P f_wInt],[],dkHo,Id'.one,60⟩:Sy Td) [] f_wFile []) hardD)
theorem wFile_ok:RowOk Try.prog Id' hardD (wFile Try.prog Try.f215 Try.f213).1 (wFile Try.prog Try.f215 Try.f213).2:=rowG_ok2 (fun (W0:World) (G:Nat→Prop)=>SyOk.mk2 Try.mixed dkHo_ok (FnsR.cons (wInt_ok) (FnsR.nil)) EqsOk.nil) rfl Try.func215 (by kernel_rfl) (fun _ _=>LpsOk.nil _) [] Try.call215
def rNum (P:Program) (f_rNum:Func):Nat×Fn2 Td:=(214,inlF Id' (⟨P,[(F_get (hx:=hardDk):Nat×Fn2 Td)],[],dkHo,Id'.one,60⟩:Sy Td) [] f_rNum [] hardD)
theorem rNum_ok:RowOk Try.prog Id' hardD (rNum Try.prog Try.f214).1 (rNum Try.prog Try.f214).2:=inlF_ok rfl (fun (W0:World) (G:Nat→Prop)=>SyOk.mk2 Try.mixed dkHo_ok (FnsR.cons (F_get_ok (J:=dkI) (hx:=hardDk)) (FnsR.nil)) EqsOk.nil) Try.func214 (by kernel_rfl) (fun _ _=>LpsOk.nil _) Try.call214
def rInt (P:Program) (f_rInt:Func):Nat×Fn2 Td:=(213,inlF Id' (⟨P,[(F_get (hx:=hardDk):Nat×Fn2 Td)],[],dkHo,Id'.one,60⟩:Sy Td) [] f_rInt [] hardD)
theorem rInt_ok:RowOk Try.prog Id' hardD (rInt Try.prog Try.f213).1 (rInt Try.prog Try.f213).2:=inlF_ok rfl (fun (W0:World) (G:Nat→Prop)=>SyOk.mk2 Try.mixed dkHo_ok (FnsR.cons (F_get_ok (J:=dkI) (hx:=hardDk)) (FnsR.nil)) EqsOk.nil) Try.func213 (by kernel_rfl) (fun _ _=>LpsOk.nil _) Try.call213
def rTxt (P:Program) (f_rTxt:Func):Nat×Fn2 Td:=(253,inlF Id' (⟨P,[(F_rtext (hx:=hardDk):Nat×Fn2 Td)],[],dkHo,Id'.one,60⟩:Sy Td) [] f_rTxt [] hardD)
theorem rTxt_ok:RowOk Try.prog Id' hardD (rTxt Try.prog Try.f253).1 (rTxt Try.prog Try.f253).2:=inlF_ok rfl (fun (W0:World) (G:Nat→Prop)=>SyOk.mk2 Try.mixed dkHo_ok (FnsR.cons (F_rtext_ok (J:=dkI) (hx:=hardDk)) (FnsR.nil)) EqsOk.nil) Try.func253 (by kernel_rfl) (fun _ _=>LpsOk.nil _) Try.call253
def rFile (P:Program) (f_rFile f_rInt:Func):Nat×Fn2 Td:=(215,ctrF Id' (specG (⟨P,[rInt P f_rInt],[],dkHo,Id'.one,60⟩:Sy Td) [] f_rFile []) hardD)
theorem rFile_ok:RowOk Try.prog Id' hardD (rFile Try.prog Try.f215 Try.f213).1 (rFile Try.prog Try.f215 Try.f213).2:=rowG_ok2 (fun (W0:World) (G:Nat→Prop)=>SyOk.mk2 Try.mixed dkHo_ok (FnsR.cons (rInt_ok) (FnsR.nil)) EqsOk.nil) rfl Try.func215 (by kernel_rfl) (fun _ _=>LpsOk.nil _) [] Try.call215
end Go.Proofs.Ytiiekgcjilelpaa
