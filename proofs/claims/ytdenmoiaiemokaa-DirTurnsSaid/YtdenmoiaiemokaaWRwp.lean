/- W71 W72 W73 W74 W75 WRw. -/
import Derived.Test.YtdenmoiaiemokaaW70p
import Derived.Test.YtdenmoiaiemokaaW65p
set_option linter.unusedVariables false
set_option linter.unusedSimpArgs false
namespace Go.Proofs.Ytdenmoiaiemokaa
open Go.RowKit
theorem RW_fewN (Y:List Rw):RowOk Try.prog Id' hardD 57 (ctrF Id' (wkC (C_fewN Y)) hardD):=ctrF_ok Try.call57 (wkC_ok (C_fewN_ok Y))
set_option maxRecDepth 100000 in
theorem dtu_w0 (R R2 Y Z:List Rw) (nm s:ByteArray) (a b c:Int) (h0:FewIs R (20:Int) R2) (h1:FewIs (inS R2 R2.length) (20:Int) Y) (h2:Y.length≤(100000:Nat)) (h3:(bsE Y (shortT s 20)==(atS (inS R2 R2.length) (shortT s (20:Nat)) (inS R2 R2.length).length).fst&&bsB Y (shortT s 20)==(atS (inS R2 R2.length) (shortT s (20:Nat)) (inS R2 R2.length).length).snd)=true) (h4:sameR (ddR Y (shortT nm (20:Nat)) a b c) Z=true) (h5:sameR (List.filter (keepR (shortT s 20)) Y) (dropR (inS R2 R2.length) (shortT s 20) (inS R2 R2.length).length)=true) (h6:sameR Y (inS R2 R2.length)=true) (h7:(List.filter (keepR (shortT s 20)) Y).length≤(100000:Nat)) (h8:(inS R2 R2.length).length≤(100000:Nat)) (h9:Y.map nrm4=Y) (h10:(ddR Y (shortT nm (20:Nat)) a b c).length≤(100000:Nat)) (h11:(inS R2 R2.length).length≤(10000:Nat)) (h12:RpIs (inS R2 R2.length) (shortT nm (20:Nat)) a b c Z) (h13:Y.length≤(10000:Nat)):∃ qs,wayO Id' ([⟨.us (.ext (.vw [true,false,false,false] R)),false⟩]:Mem Td).length [⟨.us (.ext (.vw [true,false,false,false] R)),false⟩] (svV (.bool true)) ((runFn (⟨Try.prog,[F_rshort (ξ:=Dk),(66,ctrF Id' (wkC C_find) hardD),(67,ctrF Id' (wkC C_dirPut) hardD),(65,ctrF Id' (wkC (C_rputN Z)) hardD),(68,ctrF Id' (wkC C_ddrop) hardD),(69,ctrF Id' (wkC C_rdrop) hardD),(63,ctrF Id' (wkC C_rsame) hardD),(60,ctrF Id' C_lives hardD)],[],dkHo,Id'.one,60⟩:Sy Td) [(5,(lpG Id' 102 (hdC (loopsC (bodyOf Try.f10)) 0) 3 [(8,.c (.one (.v (.int .i64 ((0:Nat):Int))))),(7,.c (.one (.obj 3)))] [(0,.c (.one (.obj 2)))] [⟨.us (.ext (.vw [true,false,false,false] R)),false⟩,⟨.blk [.v (.string (shortT nm 20)),.v (.int .i64 a),.v (.int .i64 b),.v (.int .i64 c)],true⟩,⟨.us (.ext (.flat (.rw 109 [true,false,false,false] R2))),true⟩,⟨.us (.ext (.flat (.rw 109 [true,false,false,false] []))),true⟩] (.leaf (.exit 0) [(7,.c (.one (.obj 3)))] [⟨.us (.ext (.vw [true,false,false,false] R)),false⟩,⟨.blk [.v (.string (shortT nm 20)),.v (.int .i64 a),.v (.int .i64 b),.v (.int .i64 c)],true⟩,⟨.us (.ext (.flat (.rw 109 [true,false,false,false] R2))),true⟩,⟨.us (.ext (.flat (.rw 109 [true,false,false,false] (inS R2 R2.length)))),true⟩]))),(12,(lpG Id' 102 (hdC (loopsC (bodyOf Try.f10)) 1) 5 [(14,.c (.one (.v (.int .i64 ((0:Nat):Int))))),(12,.c (.one (.v (.int .i64 (0:Int))))),(13,.c (.one (.v (.bool false))))] [(7,.c (.one (.obj 3))),(2,.c (.one (.v (.string (shortT s 20)))))] [⟨.us (.ext (.vw [true,false,false,false] R)),false⟩,⟨.blk [.v (.string (shortT nm 20)),.v (.int .i64 a),.v (.int .i64 b),.v (.int .i64 c)],true⟩,⟨.us (.ext (.flat (.rw 109 [true,false,false,false] R2))),true⟩,⟨.us (.ext (.flat (.rw 109 [true,false,false,false] (inS R2 R2.length)))),true⟩,⟨.us (.ext (.flat (.rw 109 [true,false,false,false] Y))),true⟩] (.leaf (.exit 2) [(12,.c (.one (.v (.int .i64 (atS (inS R2 R2.length) (shortT s 20) (inS R2 R2.length).length).1)))),(13,.c (.one (.v (.bool (atS (inS R2 R2.length) (shortT s 20) (inS R2 R2.length).length).2))))] [⟨.us (.ext (.vw [true,false,false,false] R)),false⟩,⟨.blk [.v (.string (shortT nm 20)),.v (.int .i64 a),.v (.int .i64 b),.v (.int .i64 c)],true⟩,⟨.us (.ext (.flat (.rw 109 [true,false,false,false] R2))),true⟩,⟨.us (.ext (.flat (.rw 109 [true,false,false,false] (inS R2 R2.length)))),true⟩,⟨.us (.ext (.flat (.rw 109 [true,false,false,false] Y))),true⟩]))),(100001,mapG (id) (⟨Try.prog,[(57,ctrF Id' (C_fewN R2) hardD),F_rshort (ξ:=Dk)],[],dkHo,Id'.one,60⟩:Sy Td) 102 (regO 1 (bodyOf Try.f10)) (drwR 1 (bodyOf Try.f10))),(100008,mapG (id) (⟨Try.prog,[(57,ctrF Id' (wkC (C_fewN Y)) hardD)],[],dkHo,Id'.one,60⟩:Sy Td) 102 (regO 8 (bodyOf Try.f10)) (drwR 8 (bodyOf Try.f10)))] Try.f10 [.one (.obj 0),.agg [.v (.string nm),.v (.int .i64 a),.v (.int .i64 b),.v (.int .i64 c)],.one (.v (.string s))] [⟨.us (.ext (.vw [true,false,false,false] R)),false⟩]).al [true,true,true,true])=some qs∧∀ q∈qs,q:=
 ⟨[(20:Nat)≤(9223372036854775807:Nat),(0:Int)≤(20:Int)∧(20:Int)≤(1000:Int),FewIs R (20:Int) R2,(20:Nat)≤(9223372036854775807:Nat),Th.ext (Dk.vw [true,false,false,false] R)=Th.ext (Dk.vw [true,false,false,false] R),Value.string (shortT nm 20)=Value.string (shortT nm (20:Nat)),Value.int IntKind.i64 a=Value.int IntKind.i64 a,Value.int IntKind.i64 b=Value.int IntKind.i64 b,Value.int IntKind.i64 c=Value.int IntKind.i64 c,Th.ext (Dk.flat (FL.rw 109 [true,false,false,false] R2))=Th.ext (Dk.flat (FL.rw 109 [true,false,false,false] R2)),∀ (w:World),Id'.holds (Th.ext (Dk.flat (FL.rw 109 [true,false,false,false] []))) w nilV∧∀ (j:Nat),¬Id'.foot (Th.ext (Dk.flat (FL.rw 109 [true,false,false,false] []))) w nilV j,Value.int IntKind.i64 (Int.ofNat 0)=Value.int IntKind.i64 (Int.ofNat (0:Nat)),(0:Int)≤(20:Int)∧(20:Int)≤(1000:Int),FewIs (inS R2 R2.length) (20:Int) Y,Y.length≤(100000:Nat),Value.string (shortT s 20)=Value.string (shortT s (20:Nat)),Th.ext (Dk.vw [true,false,false,false] R)=Th.ext (Dk.vw [true,false,false,false] R),Value.string (shortT nm (20:Nat))=Value.string (shortT nm (20:Nat)),Value.int IntKind.i64 a=Value.int IntKind.i64 a,Value.int IntKind.i64 b=Value.int IntKind.i64 b,Value.int IntKind.i64 c=Value.int IntKind.i64 c,Th.ext (Dk.flat (FL.rw 109 [true,false,false,false] R2))=Th.ext (Dk.flat (FL.rw 109 [true,false,false,false] R2)),(Th.ext (Dk.flat (FL.rw 109 [true,false,false,false] (inS R2 R2.length))):Td)=Th.ext (Dk.flat (FL.rw 109 [true,false,false,false] (inS R2 R2.length))),Th.ext (Dk.flat (FL.rw 109 [true,false,false,false] Y))=Th.ext (Dk.flat (FL.rw 109 [true,false,false,false] Y)),Value.int IntKind.i64 (Int.ofNat 0)=Value.int IntKind.i64 (Int.ofNat (0:Nat)),Value.int IntKind.i64 (Int.ofNat 0)=Value.int IntKind.i64 (Int.ofNat 0),Value.bool false=Value.bool false,(bsE Y (shortT s 20)==(atS (inS R2 R2.length) (shortT s (20:Nat)) (inS R2 R2.length).length).fst&&bsB Y (shortT s 20)==(atS (inS R2 R2.length) (shortT s (20:Nat)) (inS R2 R2.length).length).snd)=true,sameR (ddR Y (shortT nm (20:Nat)) a b c) Z=true,sameR (List.filter (keepR (shortT s 20)) Y) (dropR (inS R2 R2.length) (shortT s 20) (inS R2 R2.length).length)=true,sameR Y (inS R2 R2.length)=true,sameR Y (inS R2 R2.length)=true,Y.length≤(100000:Nat),sameR (List.filter (keepR (shortT s 20)) Y) (dropR (inS R2 R2.length) (shortT s 20) (inS R2 R2.length).length)=true,(List.filter (keepR (shortT s 20)) Y).length≤(100000:Nat),(inS R2 R2.length).length≤(100000:Nat),Y.length≤(100000:Nat),Y.map nrm4=Y,sameR (ddR Y (shortT nm (20:Nat)) a b c) Z=true,(ddR Y (shortT nm (20:Nat)) a b c).length≤(100000:Nat),(inS R2 R2.length).length≤(10000:Nat),RpIs (inS R2 R2.length) (shortT nm (20:Nat)) a b c Z,Y.length≤(10000:Nat),(bsE Y (shortT s 20)==(atS (inS R2 R2.length) (shortT s (20:Nat)) (inS R2 R2.length).length).fst&&bsB Y (shortT s 20)==(atS (inS R2 R2.length) (shortT s (20:Nat)) (inS R2 R2.length).length).snd)=true,Th.ext (Dk.vw [true,false,false,false] R)=Th.ext (Dk.vw [true,false,false,false] R),Value.bool true=Value.bool true],by kernel_rfl,mcons (by decide) (mcons (⟨by decide,by decide⟩) (mcons (h0) (mcons (by decide) (mcons (rfl) (mcons (rfl) (mcons (rfl) (mcons (rfl) (mcons (rfl) (mcons (rfl) (mcons (rwNil _ _) (mcons (rfl) (mcons (⟨by decide,by decide⟩) (mcons (h1) (mcons (h2) (mcons (rfl) (mcons (rfl) (mcons (rfl) (mcons (rfl) (mcons (rfl) (mcons (rfl) (mcons (rfl) (mcons (rfl) (mcons (rfl) (mcons (rfl) (mcons (rfl) (mcons (rfl) (mcons (h3) (mcons (h4) (mcons (h5) (mcons (h6) (mcons (h6) (mcons (h2) (mcons (h5) (mcons (h7) (mcons (h8) (mcons (h2) (mcons (h9) (mcons (h4) (mcons (h10) (mcons (h11) (mcons (h12) (mcons (h13) (mcons (h3) (mcons (rfl) (mcons (rfl) mnil)))))))))))))))))))))))))))))))))))))))))))))⟩
set_option maxRecDepth 100000 in
theorem dtu_c (R R2 Y Z:List Rw) (nm s:ByteArray) (a b c:Int) (h0:FewIs R (20:Int) R2) (h1:FewIs (inS R2 R2.length) (20:Int) Y) (h2:Y.length≤(100000:Nat)) (h3:(bsE Y (shortT s 20)==(atS (inS R2 R2.length) (shortT s (20:Nat)) (inS R2 R2.length).length).fst&&bsB Y (shortT s 20)==(atS (inS R2 R2.length) (shortT s (20:Nat)) (inS R2 R2.length).length).snd)=true) (h4:sameR (ddR Y (shortT nm (20:Nat)) a b c) Z=true) (h5:sameR (List.filter (keepR (shortT s 20)) Y) (dropR (inS R2 R2.length) (shortT s 20) (inS R2 R2.length).length)=true) (h6:sameR Y (inS R2 R2.length)=true) (h7:(List.filter (keepR (shortT s 20)) Y).length≤(100000:Nat)) (h8:(inS R2 R2.length).length≤(100000:Nat)) (h9:Y.map nrm4=Y) (h10:(ddR Y (shortT nm (20:Nat)) a b c).length≤(100000:Nat)) (h11:(inS R2 R2.length).length≤(10000:Nat)) (h12:RpIs (inS R2 R2.length) (shortT nm (20:Nat)) a b c Z) (h13:Y.length≤(10000:Nat)) (hR2:R2.length≤1000) (hIN:(inS R2 R2.length).length≤1000) (v:Value) (W:World) (hM:EntsIs W v R):Calls Try.prog 10 #[v,.agg #[.string nm,.int .i64 a,.int .i64 b,.int .i64 c],.string s] W fun e w'=>e=.returned (.bool true)∧Below W.heap.size W w':=by
 have hM:=args_us (args_nil Id' W) (fun n hn=>by cases hn) (b:=.ext (.vw [true,false,false,false] R)) (u:=v) hM (vw_lt hM)
 refine (ctr_way (I:=Id') (fun (W0:World) (G:Nat→Prop)=>SyOk.mk2 Try.mixed dkHo_ok (FnsR.cons (F_rshort_ok (J:=dkI) (hx:=hardDk)) (FnsR.cons (RW_dfind) (FnsR.cons (RW_dirPut) (FnsR.cons ((RW_rputN Z)) (FnsR.cons (RW_ddrop) (FnsR.cons (RW_rdrop) (FnsR.cons (RW_rsame) (FnsR.cons (R_lives) (FnsR.nil))))))))) EqsOk.nil) rfl Try.func10 (by kernel_rfl) (fun W0 G=>LpsOk.cons (by kernel_rfl) (dt1_lp R R2 (shortT nm 20) a b c hR2 _ rfl) (LpsOk.cons (by kernel_rfl) (dt2_lp R R2 (inS R2 R2.length) Y (shortT nm 20) (shortT s 20) a b c hIN _ rfl) (LpsOk.cons (by kernel_rfl) (mapG_sound (id:=1) ((fun (W0:World) (G:Nat→Prop)=>SyOk.mk2 Try.mixed dkHo_ok (FnsR.cons ((R_fewN R2)) (FnsR.cons (F_rshort_ok (J:=dkI) (hx:=hardDk)) (FnsR.nil))) EqsOk.nil) W0 G) rfl (fun w e mem h=>h)) (LpsOk.cons (by kernel_rfl) (mapG_sound (id:=8) ((fun (W0:World) (G:Nat→Prop)=>SyOk.mk2 Try.mixed dkHo_ok (FnsR.cons ((RW_fewN Y)) (FnsR.nil)) EqsOk.nil) W0 G) rfl (fun w e mem h=>h)) (LpsOk.nil _))))) (cs:=[true,true,true,true]) (by kernel_rfl) (dtu_w0 R R2 Y Z nm s a b c h0 h1 h2 h3 h4 h5 h6 h7 h8 h9 h10 h11 h12 h13) W [v] [v,.agg #[.string nm,.int .i64 a,.int .i64 b,.int .i64 c],.string s] hM ⟨rfl,⟨[.string nm,.int .i64 a,.int .i64 b,.int .i64 c],⟨rfl,rfl,rfl,rfl,trivial⟩,rfl⟩,rfl,trivial⟩).mono fun y w' ⟨u,e',g1,_,g2,g3⟩=>⟨g1.trans (congrArg _ g2),?_⟩
 have hx:Ext W w':=g3.mod.mono fun k _ hk=>by
  obtain ⟨i,_,n,_,hn,hmu,_⟩:=footE.1 hk
  match i,hn with
  |0,hn=>simp at hn;subst hn;cases hmu
  |i+1,hn=>simp at hn
 exact hx.below
end Go.Proofs.Ytdenmoiaiemokaa
set_option linter.unusedVariables false
set_option linter.unusedSimpArgs false
namespace Go.Proofs.Ytdenmoiaiemokaa
open Go.RowKit
theorem bl_irr:∀ a:List UInt8,Op.bytesLess a a=false
 |[]=>rfl
 |x::a=>by simp [Op.bytesLess,bl_irr a]
theorem bl_trans:∀ {a b c:List UInt8},Op.bytesLess a b=true→Op.bytesLess b c=true→Op.bytesLess a c=true
 |_,[],_,h,_=>by simp [Op.bytesLess] at h
 |_,_::_,[],_,h=>by simp [Op.bytesLess] at h
 |[],_::_,_::_,_,_=>rfl
 |x::a,y::b,z::c,h,g=>by
  simp only [Op.bytesLess,Bool.or_eq_true,Bool.and_eq_true,decide_eq_true_eq,beq_iff_eq] at h g ⊢
  rcases h with h|⟨rfl,h⟩
  ·rcases g with g|⟨rfl,g⟩
   ·exact .inl (UInt8.lt_trans h g)
   ·exact .inl h
  ·rcases g with g|⟨rfl,g⟩
   ·exact .inl g
   ·exact .inr ⟨rfl,bl_trans h g⟩
theorem bl_cmp:∀ a b:List UInt8,(Lib.compareBytes a b<0↔Op.bytesLess a b=true)∧(Lib.compareBytes a b=0↔a=b)
 |[],[]=>by simp [Lib.compareBytes,Op.bytesLess]
 |[],_::_=>by simp [Lib.compareBytes,Op.bytesLess]
 |_::_,[]=>by simp [Lib.compareBytes,Op.bytesLess]
 |x::a,y::b=>by
  obtain ⟨h1,h2⟩:=bl_cmp a b
  by_cases hxy:x<y
  ·have hne:x≠y:=fun e=>by subst e;exact UInt8.lt_irrefl _ hxy
   simp [Lib.compareBytes,Op.bytesLess,hxy,hne]
  ·by_cases hyx:y<x
   ·have hne:x≠y:=fun e=>by subst e;exact UInt8.lt_irrefl _ hyx
    simp [Lib.compareBytes,Op.bytesLess,hxy,hyx,hne]
   ·have he:x=y:=by
     have h3:=UInt8.not_lt.1 hxy
     have h4:=UInt8.not_lt.1 hyx
     exact UInt8.le_antisymm h4 h3
    subst he
    simp [Lib.compareBytes,Op.bytesLess,hxy,h1,h2]
def keyR (r:Rw):List UInt8:=(r.ss.getD 0 ⟨#[]⟩).toList
def Srt (X:List Rw):Prop:=X.Pairwise fun r q=>Op.bytesLess (keyR r) (keyR q)=true
def loF (X:List Rw) (n:List UInt8):List Rw:=X.filter fun r=>Op.bytesLess (keyR r) n
def eqF (X:List Rw) (n:List UInt8):List Rw:=X.filter fun r=>keyR r==n
def hiF (X:List Rw) (n:List UInt8):List Rw:=X.filter fun r=>Op.bytesLess n (keyR r)
theorem hi_all {X:List Rw} {n:List UInt8} (h:∀ q∈X,Op.bytesLess n (keyR q)=true):loF X n=[]∧eqF X n=[]∧hiF X n=X:=by
 refine ⟨List.filter_eq_nil_iff.2 fun q hq=>?_,List.filter_eq_nil_iff.2 fun q hq=>?_,List.filter_eq_self.2 h⟩
 ·intro hc
  have:=bl_trans (h q hq) hc
  rw [bl_irr] at this;cases this
 ·intro hc
  have h1:=h q hq
  rw [eq_of_beq hc,bl_irr] at h1;cases h1
theorem srt_split {n:List UInt8}:∀ {X:List Rw},Srt X→X=loF X n++eqF X n++hiF X n∧(eqF X n).length≤1
 |[],_=>⟨rfl,Nat.zero_le _⟩
 |r::X,h=>by
  obtain ⟨h1,h2⟩:=List.pairwise_cons.1 h
  obtain ⟨ih1,ih2⟩:=srt_split (n:=n) h2
  cases hl:Op.bytesLess (keyR r) n with
  |true=>
   have e2:(keyR r==n)=false:=by
    cases hb:keyR r==n with
    |false=>rfl
    |true=>rw [eq_of_beq hb,bl_irr] at hl;cases hl
   have e3:Op.bytesLess n (keyR r)=false:=by
    cases hb:Op.bytesLess n (keyR r) with
    |false=>rfl
    |true=>have:=bl_trans hl hb;rw [bl_irr] at this;cases this
   simp only [loF,eqF,hiF,List.filter_cons,hl,e2,e3,if_true,Bool.false_eq_true,if_false,List.cons_append]
   exact ⟨congrArg (r::·) ih1,ih2⟩
  |false=>
   cases hb:keyR r==n with
   |true=>
    have hn:keyR r=n:=eq_of_beq hb
    have e3:Op.bytesLess n (keyR r)=false:=by rw [hn,bl_irr]
    obtain ⟨g1,g2,g3⟩:=hi_all (X:=X) (n:=n) fun q hq=>hn▸h1 q hq
    simp only [loF,eqF,hiF] at g1 g2 g3 ⊢
    simp only [List.filter_cons,hl,hb,e3,if_true,Bool.false_eq_true,if_false,g1,g2,g3]
    exact ⟨rfl,Nat.le_refl _⟩
   |false=>
    have e3:Op.bytesLess n (keyR r)=true:=by
     have:=less_tri (keyR r) n
     rw [hl] at this
     have hne:(n==keyR r)=false:=by
      cases hq:n==keyR r with
      |false=>rfl
      |true=>rw [eq_of_beq hq] at hb;simp at hb
     rw [hne,Bool.or_false] at this
     exact this.symm
    obtain ⟨g1,g2,g3⟩:=hi_all (X:=X) (n:=n) fun q hq=>bl_trans e3 (h1 q hq)
    simp only [loF,eqF,hiF] at g1 g2 g3 ⊢
    simp only [List.filter_cons,hl,hb,e3,if_true,Bool.false_eq_true,if_false,g1,g2,g3]
    exact ⟨rfl,Nat.zero_le _⟩
theorem srt_idx {n:List UInt8} {X:List Rw} (h:Srt X) {q:Nat} (hq:q<X.length):Op.bytesLess (keyR (X.getD q Rw.zero)) n=decide (q<(loF X n).length):=by
 obtain ⟨h1,_⟩:=srt_split (n:=n) h
 have hg:∀ {l:List Rw} {j:Nat},j<l.length→l.getD j Rw.zero∈l:=fun {l j} hj=>by rw [List.getD_eq_getElem?_getD,List.getElem?_eq_getElem hj];exact List.getElem_mem hj
 rcases Nat.lt_or_ge q (loF X n).length with hl|hl
 ·rw [decide_eq_true hl]
  have:X.getD q Rw.zero=(loF X n).getD q Rw.zero:=by
   conv=>lhs;rw [h1]
   rw [List.append_assoc,List.getD_eq_getElem?_getD,List.getD_eq_getElem?_getD,List.getElem?_append_left hl]
  rw [this]
  exact (List.mem_filter.1 (hg hl)).2
 ·rw [decide_eq_false (by omega)]
  have hlen:X.length=(loF X n).length+(eqF X n++hiF X n).length:=by
   conv=>lhs;rw [h1]
   rw [List.append_assoc,List.length_append]
  have:X.getD q Rw.zero=(eqF X n++hiF X n).getD (q - (loF X n).length) Rw.zero:=by
   conv=>lhs;rw [h1]
   rw [List.append_assoc,List.getD_eq_getElem?_getD,List.getD_eq_getElem?_getD,List.getElem?_append_right hl]
  rw [this]
  have hm:=hg (l:=eqF X n++hiF X n) (j:=q - (loF X n).length) (by omega)
  rcases List.mem_append.1 hm with hm|hm
  ·rw [eq_of_beq (List.mem_filter.1 hm).2,bl_irr]
  ·have h2:=(List.mem_filter.1 hm).2
   cases hb:Op.bytesLess (keyR ((eqF X n++hiF X n).getD (q - (loF X n).length) Rw.zero)) n with
   |false=>rfl
   |true=>have:=bl_trans h2 hb;rw [bl_irr] at this;cases this
end Go.Proofs.Ytdenmoiaiemokaa
set_option linter.unusedVariables false
set_option linter.unusedSimpArgs false
namespace Go.Proofs.Ytdenmoiaiemokaa
open Go.RowKit
theorem keyR_nm (X:List Rw) (h:Int):keyR (X.getD h.toNat Rw.zero)=(nmR X h).data.toList:=by
 unfold keyR nmR
 rw [ByteArray.toList_eq]
theorem getD_at {X:List Rw} {q:Nat} (hq:q<X.length):X.getD q Rw.zero=X[q]:=by rw [List.getD_eq_getElem?_getD,List.getElem?_eq_getElem hq];rfl
theorem nrm_at {X:List Rw} (hn:X.map nrm4=X) {q:Nat} (hq:q<X.length):nrm4 X[q]=X[q]:=by
 have:=congrArg (fun l=>l[q]?) hn
 simp only [List.getElem?_map,List.getElem?_eq_getElem hq,Option.map_some,Option.some.injEq] at this
 exact this
theorem take_next {X:List Rw} {q:Nat} (hq:q<X.length):X.take (q+1)=X.take q++[X[q]]:=by
 rw [List.take_add_one,List.getElem?_eq_getElem hq];rfl
theorem drop_fil {X:List Rw} (hn:X.map nrm4=X) (s:ByteArray):∀ k,k≤X.length→dropR X s k=(X.take k).filter (keepR s)
 |0,_=>rfl
 |k+1,hk=>by
  have ih:=drop_fil hn s k (by omega)
  unfold dropR
  rw [getD_at (by omega),take_next (by omega),List.filter_append,ih,nrm_at hn (by omega)]
  cases h:keepR s X[k] with
  |true=>simp [h]
  |false=>simp [h]
theorem drop_all {X:List Rw} (hn:X.map nrm4=X) (s:ByteArray):dropR X s X.length=X.filter (keepR s):=by
 rw [drop_fil hn s X.length (Nat.le_refl _),List.take_of_length_le (Nat.le_refl _)]
theorem lo_le (X:List Rw) (n:List UInt8):(loF X n).length≤X.length:=List.length_filter_le _ _
theorem bs_mid {X:List Rw} {s:ByteArray} (hX:X.length≤100000) (hs:Srt X):∀ k,k≤X.length→(bsS X s k).1≤((loF X s.toList).length:Int)∧((loF X s.toList).length:Int)≤(bsS X s k).2
 |0,_=>⟨by show (0:Int)≤_;omega,by have:=lo_le X s.toList;show _≤(X.length:Int);omega⟩
 |k+1,hk=>by
  have ih:=bs_mid (s:=s) hX hs k (by omega)
  have inv:=bsS_inv (s:=s) hX k (by omega)
  obtain ⟨i,hi⟩:∃ i,i=(bsS X s k).1:=⟨_,rfl⟩
  obtain ⟨j,hj⟩:∃ j,j=(bsS X s k).2:=⟨_,rfl⟩
  have hst:bsS X s (k+1)=bif decide (i<j) then (bsI X s i j,bsJ X s i j) else bsS X s k:=by rw [hi,hj];rfl
  cases hd:decide (i<j) with
  |false=>
   rw [hd] at hst
   have hst:bsS X s (k+1)=bsS X s k:=hst
   rw [hst];exact ih
  |true=>
   have hlt:=of_decide_eq_true hd
   rw [hd] at hst
   have hst:bsS X s (k+1)=(bsI X s i j,bsJ X s i j):=hst
   rw [← hi,←hj] at inv ih
   have hm:=bsH_mid (i:=i) (j:=j) (by omega)
   have hidx:=srt_idx (n:=s.toList) hs (q:=(bsH i j).toNat) (by omega)
   have hc:=(bl_cmp (nmR X (bsH i j)).data.toList s.data.toList).1
   rw [keyR_nm,ByteArray.toList_eq] at hidx
   rw [hst]
   unfold bsI bsJ
   have hcc:cmpS (nmR X (bsH i j)) s=Lib.compareBytes (nmR X (bsH i j)).data.toList s.data.toList:=rfl
   cases hb:decide (cmpS (nmR X (bsH i j)) s<0) with
   |true=>
    have h1:=hc.1 (of_decide_eq_true hb)
    rw [h1] at hidx
    have h2:=of_decide_eq_true hidx.symm
    rw [ByteArray.toList_eq] at ih ⊢
    simp only [cond_true]
    rw [IntWalk.i64_in _ (by omega)]
    omega
   |false=>
    have h1:Op.bytesLess (nmR X (bsH i j)).data.toList s.data.toList=false:=by
     cases hq:Op.bytesLess (nmR X (bsH i j)).data.toList s.data.toList with
     |false=>rfl
     |true=>exact absurd (hc.2 hq) (of_decide_eq_false hb)
    rw [h1] at hidx
    have h2:=of_decide_eq_false hidx.symm
    rw [ByteArray.toList_eq] at ih ⊢
    simp only [cond_false]
    omega
theorem bsE_is {X:List Rw} {s:ByteArray} (hX:X.length≤100000) (hs:Srt X):bsE X s=((loF X s.toList).length:Int):=by
 have h1:=bs_mid (s:=s) hX hs X.length (Nat.le_refl _)
 have h2:=bsS_inv (s:=s) hX X.length (Nat.le_refl _)
 unfold bsE
 omega
def thB (X:List Rw) (n:List UInt8):Bool:=!(eqF X n).isEmpty
theorem bsB_is {X:List Rw} {s:ByteArray} (hX:X.length≤100000) (hs:Srt X):bsB X s=thB X s.toList:=by
 obtain ⟨h1,h2⟩:=srt_split (n:=s.toList) hs
 have he:=bsE_is (s:=s) hX hs
 have hc:=(bl_cmp (nmR X (bsE X s)).data.toList s.data.toList).2
 have hlen:X.length=(loF X s.toList).length+(eqF X s.toList++hiF X s.toList).length:=by
  conv=>lhs;rw [h1]
  rw [List.append_assoc,List.length_append]
 have hat:∀ r,(eqF X s.toList++hiF X s.toList)[0]? =some r→X.getD (loF X s.toList).length Rw.zero=r:=fun r hr=>by
  refine (congrArg (fun l:List Rw=>l.getD (loF X s.toList).length Rw.zero) h1).trans ?_
  show List.getD (loF X s.toList++eqF X s.toList++hiF X s.toList) (loF X s.toList).length Rw.zero=r
  rw [List.append_assoc,List.getD_eq_getElem?_getD,List.getElem?_append_right (Nat.le_refl _),Nat.sub_self,hr];rfl
 have hk:=keyR_nm X (bsE X s)
 rw [he,Int.toNat_natCast] at hk
 unfold bsB thB
 rw [he] at hc ⊢
 cases hq:eqF X s.toList with
 |nil=>
  rw [hq,List.nil_append] at hat hlen
  show _=false
  cases hd:decide (((loF X s.toList).length:Int)<(X.length:Int)) with
  |false=>rfl
  |true=>
   have hlt:=of_decide_eq_true hd
   rw [Bool.true_and]
   cases hb:cmpS (nmR X ((loF X s.toList).length:Int)) s==0 with
   |false=>rfl
   |true=>
    exfalso
    have e1:=hc.1 (eq_of_beq hb)
    have hpos:0<(hiF X s.toList).length:=by omega
    have hr:=hat (hiF X s.toList)[0] (by rw [List.getElem?_eq_getElem hpos])
    rw [hr] at hk
    have h3:=(List.mem_filter.1 (List.getElem_mem hpos)).2
    rw [hk,e1,ByteArray.toList_eq,bl_irr] at h3
    cases h3
 |cons r l=>
  rw [hq] at hat hlen
  have hr:=hat r rfl
  rw [hr] at hk
  have hmem:r∈eqF X s.toList:=by rw [hq];exact List.mem_cons_self ..
  have h3:=eq_of_beq (List.mem_filter.1 hmem).2
  rw [h3] at hk
  have e1:=hc.2 (hk.symm.trans (ByteArray.toList_eq _))
  have hlt:((loF X s.toList).length:Int)<(X.length:Int):=by rw [hlen];simp only [List.cons_append,List.length_cons];omega
  rw [decide_eq_true hlt]
  show (cmpS _ _==0)=true
  rw [show cmpS (nmR X ((loF X s.toList).length:Int)) s=0 from e1]
  rfl
def oneR (X:List Rw) (nm:ByteArray) (a b c:Int):List Rw:=loF X nm.toList++⟨[a,b,c],[nm]⟩::hiF X nm.toList
theorem ddR_is {X:List Rw} {nm:ByteArray} {a b c:Int} (hX:X.length≤100000) (hs:Srt X):ddR X nm a b c=oneR X nm a b c:=by
 obtain ⟨h1,h2⟩:=srt_split (n:=nm.toList) hs
 unfold ddR oneR
 rw [bsE_is hX hs,bsB_is hX hs,Int.toNat_natCast]
 have e1:X.take (loF X nm.toList).length=loF X nm.toList:=by
  refine (congrArg (fun l:List Rw=>l.take (loF X nm.toList).length) h1).trans ?_
  show List.take (loF X nm.toList).length (loF X nm.toList++eqF X nm.toList++hiF X nm.toList)=_
  rw [List.append_assoc,List.take_left' rfl]
 have e2:X.drop ((loF X nm.toList).length+bif thB X nm.toList then 1 else 0)=hiF X nm.toList:=by
  have h3:(bif thB X nm.toList then 1 else 0)=(eqF X nm.toList).length:=by
   unfold thB
   cases hq:eqF X nm.toList with
   |nil=>rfl
   |cons r l=>
    rw [hq] at h2
    have:l=[]:=List.eq_nil_of_length_eq_zero (by simp only [List.length_cons] at h2;omega)
    subst this;rfl
  rw [h3]
  refine (congrArg (fun l:List Rw=>l.drop ((loF X nm.toList).length+(eqF X nm.toList).length)) h1).trans ?_
  show List.drop ((loF X nm.toList).length+(eqF X nm.toList).length) (loF X nm.toList++eqF X nm.toList++hiF X nm.toList)=_
  rw [List.drop_left' (by rw [List.length_append])]
 rw [e1,e2]
end Go.Proofs.Ytdenmoiaiemokaa
set_option linter.unusedVariables false
set_option linter.unusedSimpArgs false
namespace Go.Proofs.Ytdenmoiaiemokaa
open Go.RowKit
theorem keep_key (s:ByteArray) (r:Rw):keepR s r=!(keyR r==s.toList):=rfl
theorem fil_keep {X:List Rw} {s:ByteArray} (hs:Srt X):X.filter (keepR s)=loF X s.toList++hiF X s.toList:=by
 obtain ⟨h1,_⟩:=srt_split (n:=s.toList) hs
 have e0:=(congrArg (fun l:List Rw=>l.filter (keepR s)) h1)
 refine e0.trans ?_
 show List.filter (keepR s) (loF X s.toList++eqF X s.toList++hiF X s.toList)=_
 rw [List.filter_append,List.filter_append]
 have e1:List.filter (keepR s) (loF X s.toList)=loF X s.toList:=List.filter_eq_self.2 fun r hr=>by
  have h:=(List.mem_filter.1 hr).2
  rw [keep_key]
  cases hb:keyR r==s.toList with
  |false=>rfl
  |true=>rw [eq_of_beq hb,bl_irr] at h;cases h
 have e2:List.filter (keepR s) (eqF X s.toList)=[]:=List.filter_eq_nil_iff.2 fun r hr=>by
  have h:=(List.mem_filter.1 hr).2
  rw [keep_key,h];exact Bool.noConfusion
 have e3:List.filter (keepR s) (hiF X s.toList)=hiF X s.toList:=List.filter_eq_self.2 fun r hr=>by
  have h:=(List.mem_filter.1 hr).2
  rw [keep_key]
  cases hb:keyR r==s.toList with
  |false=>rfl
  |true=>rw [eq_of_beq hb,bl_irr] at h;cases h
 rw [e1,e2,e3,List.append_nil]
theorem nrm_mem {X:List Rw} (hn:X.map nrm4=X) {r:Rw} (h:r∈X):nrm4 r=r:=by
 obtain ⟨q,hq,rfl⟩:=List.mem_iff_getElem.1 h
 exact nrm_at hn hq
theorem lt_nm (nm:ByteArray) (r:Rw):ltS nm (nmE r)=Op.bytesLess nm.toList (keyR r):=rfl
theorem pw_lo {L H:List Rw} {nm:ByteArray} {a b c:Int} (hn:∀ r∈L++H,nrm4 r=r) (hL:∀ r∈L,Op.bytesLess nm.toList (keyR r)=false):∀ k,k≤L.length→pwS (L++H) nm a b c k=(L.take k,false)
 |0,_=>rfl
 |k+1,hk=>by
  have ih:=pw_lo (a:=a) (b:=b) (c:=c) hn hL k (by omega)
  have hg:(L++H).getD k Rw.zero=L[k]:=by rw [getD_at (by rw [List.length_append];omega),List.getElem_append_left (by omega)]
  have hm:L[k]∈L:=List.getElem_mem _
  unfold pwS
  rw [ih,hg,lt_nm,hL _ hm,hn _ (List.mem_append_left _ hm),take_next (by omega)]
  rfl
theorem pw_hi {L H:List Rw} {nm:ByteArray} {a b c:Int} (hn:∀ r∈L++H,nrm4 r=r) (hL:∀ r∈L,Op.bytesLess nm.toList (keyR r)=false) (hH:∀ r∈H,Op.bytesLess nm.toList (keyR r)=true):∀ j,j<H.length→
  pwS (L++H) nm a b c (L.length+(j+1))=(L++[⟨[a,b,c],[nm]⟩]++H.take (j+1),true)
 |0,hj=>by
  have h0:=pw_lo (H:=H) (a:=a) (b:=b) (c:=c) hn hL L.length (Nat.le_refl _)
  have hg:(L++H).getD L.length Rw.zero=H[0]:=by rw [getD_at (by rw [List.length_append];omega),List.getElem_append_right (Nat.le_refl _)];simp
  have hm:H[0]∈H:=List.getElem_mem _
  show pwS (L++H) nm a b c (L.length+0+1)=_
  unfold pwS
  rw [Nat.add_zero,h0,hg,lt_nm,hH _ hm,hn _ (List.mem_append_right _ hm),take_next hj,List.take_of_length_le (Nat.le_refl _)]
  rfl
 |j+1,hj=>by
  have ih:=pw_hi (a:=a) (b:=b) (c:=c) hn hL hH j (by omega)
  have hg:(L++H).getD (L.length+(j+1)) Rw.zero=H[j+1]:=by rw [getD_at (by rw [List.length_append];omega),List.getElem_append_right (by omega)];congr 1;omega
  have hm:H[j+1]∈H:=List.getElem_mem _
  show pwS (L++H) nm a b c (L.length+(j+1)+1)=_
  unfold pwS
  rw [ih,hg,hn _ (List.mem_append_right _ hm),take_next hj]
  show (L++[⟨[a,b,c],[nm]⟩]++H.take (j+1)++[H[j+1]],true)=_
  simp only [List.append_assoc]
theorem pwR_is {X:List Rw} {nm:ByteArray} {a b c:Int} (hn:X.map nrm4=X) (hs:Srt X):pwR X nm a b c=oneR X nm a b c:=by
 unfold pwR oneR
 rw [drop_all hn nm,fil_keep hs]
 obtain ⟨L,hL⟩:∃ L,L=loF X nm.toList:=⟨_,rfl⟩
 obtain ⟨H,hH⟩:∃ H,H=hiF X nm.toList:=⟨_,rfl⟩
 rw [← hL,←hH]
 have h1:∀ r∈L++H,nrm4 r=r:=fun r hr=>by
  refine nrm_mem hn ?_
  rcases List.mem_append.1 hr with h|h
  ·rw [hL] at h;exact (List.mem_filter.1 h).1
  ·rw [hH] at h;exact (List.mem_filter.1 h).1
 have h2:∀ r∈L,Op.bytesLess nm.toList (keyR r)=false:=fun r hr=>by
  rw [hL] at hr
  have h:=(List.mem_filter.1 hr).2
  cases hb:Op.bytesLess nm.toList (keyR r) with
  |false=>rfl
  |true=>have:=bl_trans h hb;rw [bl_irr] at this;cases this
 have h3:∀ r∈H,Op.bytesLess nm.toList (keyR r)=true:=fun r hr=>by
  rw [hH] at hr
  exact (List.mem_filter.1 hr).2
 cases hq:H with
 |nil=>
  have h4:=pw_lo (H:=H) (a:=a) (b:=b) (c:=c) h1 h2 L.length (Nat.le_refl _)
  rw [hq,List.append_nil] at h4
  rw [List.append_nil,h4,List.take_of_length_le (Nat.le_refl _)]
  rfl
 |cons r H'=>
  have h4:=pw_hi (a:=a) (b:=b) (c:=c) h1 h2 h3 (H.length - 1) (by rw [hq];simp)
  have hl:H.length - 1+1=H.length:=by rw [hq];simp
  rw [hl,List.take_of_length_le (Nat.le_refl _),←List.length_append,hq] at h4
  rw [h4]
  show L++[⟨[a,b,c],[nm]⟩]++(r::H')=_
  rw [List.append_assoc];rfl
theorem at_is {X:List Rw} {s:ByteArray} (hs:Srt X):∀ k,k≤X.length→atS X s k=(((min k (loF X s.toList).length:Nat):Int),(X.take k).any fun r=>keyR r==s.toList)
 |0,_=>by simp [atS]
 |k+1,hk=>by
  have ih:=at_is (s:=s) hs k (by omega)
  have hx:=srt_idx (n:=s.toList) hs (q:=k) (by omega)
  unfold atS
  rw [ih]
  have hx':Op.bytesLess ((X.getD k Rw.zero).ss.getD 0 ⟨#[]⟩).toList s.toList=decide (k<(loF X s.toList).length):=hx
  rw [hx',take_next (by omega),List.any_append,getD_at (by omega)]
  refine Prod.ext ?_ ?_
  ·cases hd:decide (k<(loF X s.toList).length) with
   |true=>
    have:=of_decide_eq_true hd
    show ((k+1:Nat):Int)=_
    congr 1;omega
   |false=>
    have:=of_decide_eq_false hd
    show ((min k _:Nat):Int)=_
    congr 1;omega
  ·show ((X.take k).any _||_)=_
   simp [keyR]
theorem at_all {X:List Rw} {s:ByteArray} (hs:Srt X):atS X s X.length=(((loF X s.toList).length:Int),thB X s.toList):=by
 rw [at_is hs X.length (Nat.le_refl _),Nat.min_eq_right (lo_le X _),List.take_of_length_le (Nat.le_refl _)]
 refine Prod.ext rfl ?_
 show X.any _=!(X.filter _).isEmpty
 cases hq:X.filter fun r=>keyR r==s.toList with
 |nil=>
  have:=List.filter_eq_nil_iff.1 hq
  show _=false
  rw [List.any_eq_false]
  exact this
 |cons r l=>
  have hm:r∈X.filter fun r=>keyR r==s.toList:=by rw [hq];exact List.mem_cons_self ..
  obtain ⟨m1,m2⟩:=List.mem_filter.1 hm
  exact List.any_eq_true.2 ⟨r,m1,m2⟩
theorem one_srt {X:List Rw} {nm:ByteArray} {a b c:Int} (hs:Srt X):Srt (oneR X nm a b c):=by
 have hk:keyR ⟨[a,b,c],[nm]⟩=nm.toList:=rfl
 refine List.pairwise_append.2 ⟨hs.filter _,List.pairwise_cons.2 ⟨fun r hr=>?_,hs.filter _⟩,fun x hx y hy=>?_⟩
 ·rw [hk];exact (List.mem_filter.1 hr).2
 ·have h1:=(List.mem_filter.1 hx).2
  rcases List.mem_cons.1 hy with rfl|hy
  ·rw [hk];exact h1
  ·exact bl_trans h1 (List.mem_filter.1 hy).2
theorem one_mem {X:List Rw} {nm:ByteArray} {a b c:Int} {r:Rw} (h:r∈oneR X nm a b c):r∈X∨r=⟨[a,b,c],[nm]⟩:=by
 rcases List.mem_append.1 h with h|h
 ·exact .inl (List.mem_filter.1 h).1
 ·rcases List.mem_cons.1 h with h|h
  ·exact .inr h
  ·exact .inl (List.mem_filter.1 h).1
end Go.Proofs.Ytdenmoiaiemokaa
set_option linter.unusedVariables false
set_option linter.unusedSimpArgs false
namespace Go.Proofs.Ytdenmoiaiemokaa
open Go.RowKit
theorem short_short (s:ByteArray) (n:Nat):shortT (shortT s n) n=shortT s n:=by
 unfold shortT
 simp [List.take_take]
theorem sh_sh (r:Rw):shR (shR r)=shR r:=by
 unfold shR
 simp [short_short]
theorem sh_nrm {r:Rw} (h:shR r=r):nrm4 r=r:=by
 rw [← h];rfl
theorem few_fil (R:List Rw):∀ k,k≤R.length→fewK R k=(R.take k).map shR
 |0,_=>rfl
 |k+1,hk=>by
  have ih:=few_fil R k (by omega)
  unfold fewK
  rw [ih,take_next (by omega),List.map_append,getD_at (by omega)]
  rfl
theorem few_map (R:List Rw) (n:Nat):fewR R (n:Int)=(R.take n).map shR:=by
 unfold fewR
 rw [Int.toNat_natCast,few_fil R _ (Nat.min_le_left _ _)]
 congr 1
 rcases Nat.le_total R.length n with h|h
 ·rw [Nat.min_eq_left h,List.take_of_length_le (Nat.le_refl _),List.take_of_length_le h]
 ·rw [Nat.min_eq_right h]
theorem few_good {R:List Rw} {r:Rw} (h:r∈fewR R 20):shR r=r:=by
 have h:r∈fewR R ((20:Nat):Int):=h
 rw [few_map] at h
 obtain ⟨x,_,rfl⟩:=List.mem_map.1 h
 exact sh_sh x
theorem few_self {X:List Rw} (hg:∀ r∈X,shR r=r) (hl:X.length≤20):fewR X 20=X:=by
 show fewR X ((20:Nat):Int)=X
 rw [few_map,List.take_of_length_le hl]
 exact (List.map_congr_left hg).trans (List.map_id' X)
theorem nrm_good {X:List Rw} (hg:∀ r∈X,shR r=r):X.map nrm4=X:=(List.map_congr_left fun r hr=>sh_nrm (hg r hr)).trans (List.map_id' X)
theorem in_good {R2:List Rw} (h2:∀ r∈R2,shR r=r):∀ k,k≤R2.length→Srt (inS R2 k)∧∀ r∈inS R2 k,shR r=r
 |0,_=>⟨List.Pairwise.nil,fun r h=>by cases h⟩
 |k+1,hk=>by
  obtain ⟨ih1,ih2⟩:=in_good h2 k (by omega)
  have hx:(R2.getD k Rw.zero)∈R2:=by rw [getD_at (by omega)];exact List.getElem_mem _
  have hn:=sh_nrm (h2 _ hx)
  have he:inS R2 (k+1)=oneR (inS R2 k) ((R2.getD k Rw.zero).ss.getD 0 ⟨#[]⟩) ((R2.getD k Rw.zero).is.getD 0 0) ((R2.getD k Rw.zero).is.getD 1 0) ((R2.getD k Rw.zero).is.getD 2 0):=pwR_is (nrm_good ih2) ih1
  rw [he]
  refine ⟨one_srt ih1,fun r hr=>?_⟩
  rcases one_mem hr with h|h
  ·exact ih2 r h
  ·have:r=nrm4 (R2.getD k Rw.zero):=h
   rw [this,hn]
   exact h2 _ hx
theorem dirTurns_calls (v:Value) (R:List Rw) (nm:ByteArray) (a b c:Int) (s:ByteArray) (W:World) (hM:EntsIs W v R):
  Calls Try.prog 10 #[v,.agg #[.string nm,.int .i64 a,.int .i64 b,.int .i64 c],.string s] W fun e w'=>e=.returned (.bool true)∧Below W.heap.size W w':=by
 have hl2:(fewR R 20).length≤20:=fewR_len R 20
 have hg2:∀ r∈fewR R 20,shR r=r:=fun r hr=>few_good hr
 have hlX:=inS_len (fewR R 20) (fewR R 20).length
 obtain ⟨hs,hgX⟩:=in_good hg2 (fewR R 20).length (Nat.le_refl _)
 obtain ⟨X,hX⟩:∃ X,X=inS (fewR R 20) (fewR R 20).length:=⟨_,rfl⟩
 have hw:=dtu_c R (fewR R 20) X (pwR X (shortT nm 20) a b c) nm s a b c
 rw [← hX] at hlX hs hgX hw
 have hnX:=nrm_good hgX
 have h5:X.length≤100000:=by omega
 have hp:=pwR_len1 X (shortT nm 20) a b c
 have hd:ddR X (shortT nm 20) a b c=pwR X (shortT nm 20) a b c:=(ddR_is h5 hs).trans (pwR_is hnX hs).symm
 refine hw ⟨rfl⟩ ⟨few_self hgX (by omega)⟩ h5 ?_ ?_ ?_ (same_refl X) ?_ h5 hnX ?_ (by omega) ⟨rfl⟩ (by omega) (by omega) (by omega) v W hM
 ·rw [bsE_is h5 hs,bsB_is h5 hs,at_all hs]
  simp
 ·rw [hd];exact same_refl _
 ·rw [drop_all hnX];exact same_refl _
 ·exact Nat.le_trans (List.length_filter_le _ _) h5
 ·rw [hd];omega
end Go.Proofs.Ytdenmoiaiemokaa
set_option linter.unusedVariables false
set_option linter.unusedSimpArgs false
namespace Go.Proofs.Ytdenmoiaiemokaa
open Go.RowKit Go.ChangeShapes Go.WideShapes Go.ChangeAt
section
variable {H:Type} {enc:TypeId×Value→H} {W:World}
set_option maxRecDepth 100000 in
theorem read_entW {base:Nat} {v:Value} {fuel:Nat} {x:DataW H×List MemPlace} (hv:Value.okWide Try.prog W .any base 109 v) (h:DataW.trod enc Try.prog W 0 (fun _=>true) true fuel 109 v.cells.toList=some x):
  ∃ d:Rw,v=.agg #[.string (d.ss.getD 0 ⟨#[]⟩),.int .i64 (d.is.getD 0 0),.int .i64 (d.is.getD 1 0),.int .i64 (d.is.getD 2 0)]∧True:=by
 obtain ⟨csA,rfl,hs⟩:=okWide_struct Try.underlying109 hv
 have h4:Try.prog.cellsOf 109=4:=by kernel_rfl
 obtain ⟨cs,rfl⟩:∃ cs:List Value,csA=cs.toArray:=⟨csA.toList,by simp⟩
 have hl:cs.length=4:=by rw [h4] at hs;simpa using hs
 replace h:DataW.trod enc Try.prog W 0 (fun _=>true) true fuel 109 cs=some x:=h
 obtain ⟨d,rfl,_⟩:=read_entR hl h
 exact ⟨d,rfl,trivial⟩
end
end Go.Proofs.Ytdenmoiaiemokaa
