/- J80 JM25 JM26 JM27 J60. -/
import Derived.Test.YtiiekgcjilelpaaJ8N4p
import Derived.Test.YtiiekgcjilelpaaJ8T3p
import Derived.Test.YtiiekgcjilelpaaJ8T7p
import Derived.Test.YtiiekgcjilelpaaJ2p
import Derived.Test.YtiiekgcjilelpaaJM17p
import Derived.Test.YtiiekgcjilelpaaJM13p
import Derived.Test.YtiiekgcjilelpaaJM15p
import Derived.Test.YtiiekgcjilelpaaJ52p
import Derived.Test.YtiiekgcjilelpaaJ21p
import Derived.Test.YtiiekgcjilelpaaF2p
import Derived.Test.YtiiekgcjilelpaaJ50p
open List renaming getD_eq_getElem?_getD → zaf
open Bool renaming and_eq_true → zbs, or_eq_true → zbt, or_eq_false_iff → zbu
set_option linter.unusedSimpArgs false
set_option linter.unusedVariables false
namespace Go.Proofs.Ytiiekgcjilelpaa
open Go.RowKit
def boW (s:WS) (ty cl ss sq bo kd er f1 f2 d1 d2:Int) (nm ot:ByteArray) (mo pl:Int) (da:ByteArray) (ve:Int):WS:=
 bif ty==3 then (fiW s f1 f2)
 else bif ty==1&&decide (kd<8) then
  (bif kd==6 then (((fiW (fiW s f1 f2) d1 d2).text nm).text ot) else bif decide (kd≥3) then (bif decide (kd≥3)&&kd != 7 then (bif kd==4 then (((fiW s d1 d2).text nm).put (IntKind.u64.wrap mo) 2) else ((fiW s d1 d2).text nm)) else (fiW s d1 d2)) else s)
 else bif ty==1 then
  (bif kd==14 then s else bif (bif kd==8 then kd==8 else kd==13) then ((fiW s f1 f2).put (IntKind.u64.wrap mo) 2) else bif (bif kd==9 then kd==9 else kd==10) then (bif kd==10 then (((fiW s f1 f2).put (IntKind.u64.wrap pl) 3).text da) else ((fiW s f1 f2).put (IntKind.u64.wrap pl) 3)) else (fiW s f1 f2))
 else bif er==0 then
  (bif kd==3 then ((fiW s f1 f2).put (IntKind.u64.wrap mo) 2) else bif kd==4 then (fiW s f1 f2) else bif (bif kd==8 then kd==8 else bif kd==13 then kd==13 else bif kd==10 then kd==10 else kd==11) then (s.put ve 40) else bif kd==9 then ((s.text da).put ve 40) else s)
 else s
def yjv (ty kd er:Int):Bool:=!(ty==3)&&!(ty==1)&&er==0&&kd==7
def bodW (s:WS) (ty cl ss sq bo kd er f1 f2 d1 d2:Int) (nm ot:ByteArray) (mo pl:Int) (da:ByteArray) (ve:Int) (R:List Rw):WS:=bif yjv ty kd er then (enW (s.put (IntKind.u64.wrap (R.length:Int)) 5) R R.length) else boW s ty cl ss sq bo kd er f1 f2 d1 d2 nm ot mo pl da ve
def C_wb:Ctr Td:=fun us sub=>match us,sub with
 |[.agg [.obj 0,.v (.pointer none)],.one (.ptr 1 0)],[⟨.us (.wr s),true⟩,⟨.bx [.v (.int .i64 ty),.v (.int .i64 cl),.v (.int .u64 ss),.v (.int .u64 sq),.v (.int .u64 bo),.v (.int .i64 kd),.v (.int .i64 er),.v (.int .i64 f1),.v (.int .i64 f2),.v (.int .i64 d1),.v (.int .i64 d2),.v (.string nm),.v (.string ot),.v (.int .i64 mo),.v (.int .i64 pl),.v (.string da),.v (.int .u64 ve),.obj 2],true⟩,⟨.us (.ext (.vw [true,false,false,false] R)),false⟩]=>some ([s.n≤8000000,nm.size<65536,ot.size<65536,da.size<65536,0≤ve∧ve<18446744073709551616,R.length≤100,∀ r∈R,(r.ss.getD 0 ⟨#[]⟩).size<65536],.tup [],[⟨.us (.wr (bodW s ty cl ss sq bo kd er f1 f2 d1 d2 nm ot mo pl da ve R)),true⟩,⟨.bx [.v (.int .i64 ty),.v (.int .i64 cl),.v (.int .u64 ss),.v (.int .u64 sq),.v (.int .u64 bo),.v (.int .i64 kd),.v (.int .i64 er),.v (.int .i64 f1),.v (.int .i64 f2),.v (.int .i64 d1),.v (.int .i64 d2),.v (.string nm),.v (.string ot),.v (.int .i64 mo),.v (.int .i64 pl),.v (.string da),.v (.int .u64 ve),.obj 2],true⟩,⟨.us (.ext (.vw [true,false,false,false] R)),false⟩])
 |_,_=>none
set_option maxRecDepth 100000 in
theorem C_wb_ok:CtrOk Try.prog Id' 141 C_wb:=by
 intro us sub ps x sm h hp w e vs hM ha
 unfold C_wb at h
 split at h
 ·rename_i s ty cl ss sq bo kd er f1 f2 d1 d2 nm ot mo pl da ve R
  simp only [Option.some.injEq,Prod.mk.injEq] at h
  obtain ⟨rfl,rfl,rfl⟩:=h
  have p0:=hp _ (ma 0 rfl)
  have p1:=hp _ (ma 1 rfl)
  have p2:=hp _ (ma 2 rfl)
  have p3:=hp _ (ma 3 rfl)
  have p4:=hp _ (ma 4 rfl)
  have p5:=hp _ (ma 5 rfl)
  have p6:=hp _ (ma 6 rfl)
  cases ht:yjv ty kd er with
  |true=>
   have ht':=ht
   simp only [yjv,zbs,Bool.not_eq_true'] at ht'
   obtain ⟨⟨⟨n3,n1⟩,e0⟩,e7⟩:=ht'
   have k7:kd=7:=eq_of_beq e7
   have hW:bodW s ty cl ss sq bo kd er f1 f2 d1 d2 nm ot mo pl da ve R=(enW (s.put (IntKind.u64.wrap (R.length:Int)) 5) R R.length):=by
    unfold bodW
    rw [ht,cond_true]
   rw [hW]
   exact ya6 (I:=Id') (fun (W0:World) (G:Nat→Prop)=>SyOk.mk2 Try.mixed yal (FnsR.cons (yvf) (FnsR.nil)) EqsOk.nil) rfl Try.func141 (by kernel_rfl) (fun W0 G=>LpsOk.nil _) (cs:=[false,false,false,true]) (by kernel_rfl) (wbT7_w0 R ty cl ss sq bo kd er f1 f2 d1 d2 nm ot mo pl da ve s p0 n3 (by rw [n1];rfl) n1 e0 (by rw [k7];rfl) (by rw [k7];rfl) e7 p1 p2 p3 p4 p5 p6) w e vs hM ha
  |false=>
   cases h3:(ty==3) with
   |true=>
    have hW:bodW s ty cl ss sq bo kd er f1 f2 d1 d2 nm ot mo pl da ve R=(fiW s f1 f2):=by
     unfold bodW
     rw [ht,cond_false]
     unfold boW
     rw [h3];rfl
    rw [hW]
    exact ya6 (I:=Id') (fun (W0:World) (G:Nat→Prop)=>SyOk.mk2 Try.mixed yal (FnsR.cons (ya8) (FnsR.nil)) EqsOk.nil) rfl Try.func141 (by kernel_rfl) (fun W0 G=>LpsOk.nil _) (cs:=[true]) (by kernel_rfl) (wbR_w0 R ty cl ss sq bo kd er f1 f2 d1 d2 nm ot mo pl da ve s p0 h3 p1 p2 p3 p4) w e vs hM ha
   |false=>
    cases hn:(ty==1&&decide (kd<8)) with
    |true=>
     cases h6:(kd==6) with
     |true=>
      have hW:bodW s ty cl ss sq bo kd er f1 f2 d1 d2 nm ot mo pl da ve R=(((fiW (fiW s f1 f2) d1 d2).text nm).text ot):=by
       unfold bodW
       rw [ht,cond_false]
       unfold boW
       rw [h3,hn,h6];rfl
      rw [hW]
      exact ya6 (I:=Id') (fun (W0:World) (G:Nat→Prop)=>SyOk.mk2 Try.mixed yal (FnsR.cons (yq6) (FnsR.nil)) EqsOk.nil) rfl Try.func141 (by kernel_rfl) (fun W0 G=>LpsOk.nil _) (cs:=[false,true]) (by kernel_rfl) (wbN6_w0 R ty cl ss sq bo kd er f1 f2 d1 d2 nm ot mo pl da ve s p0 h3 hn h6 (by exact decide_eq_true (by have:=eq_of_beq h6;omega)) (by have:=eq_of_beq h6;subst this;rfl) p1 p2 p3 p4) w e vs hM ha
     |false=>
      cases hg:decide (kd≥3) with
      |true=>
       cases hg7:(decide (kd≥3)&&kd != 7) with
       |true=>
        cases h4:(kd==4) with
        |true=>
         have hW:bodW s ty cl ss sq bo kd er f1 f2 d1 d2 nm ot mo pl da ve R=(((fiW s d1 d2).text nm).put (IntKind.u64.wrap mo) 2):=by
          unfold bodW
          rw [ht,cond_false]
          unfold boW
          rw [h3,hn,h6,hg7,hg,h4];rfl
         rw [hW]
         exact ya6 (I:=Id') (fun (W0:World) (G:Nat→Prop)=>SyOk.mk2 Try.mixed yal (FnsR.cons (yq7) (FnsR.nil)) EqsOk.nil) rfl Try.func141 (by kernel_rfl) (fun W0 G=>LpsOk.nil _) (cs:=[false,true]) (by kernel_rfl) (wbN4_w0 R ty cl ss sq bo kd er f1 f2 d1 d2 nm ot mo pl da ve s p0 h3 hn h6 hg hg7 h4 p1 p2 p3 p4) w e vs hM ha
        |false=>
         have hW:bodW s ty cl ss sq bo kd er f1 f2 d1 d2 nm ot mo pl da ve R=((fiW s d1 d2).text nm):=by
          unfold bodW
          rw [ht,cond_false]
          unfold boW
          rw [h3,hn,h6,hg7,hg,h4];rfl
         rw [hW]
         exact ya6 (I:=Id') (fun (W0:World) (G:Nat→Prop)=>SyOk.mk2 Try.mixed yal (FnsR.cons (yq8) (FnsR.nil)) EqsOk.nil) rfl Try.func141 (by kernel_rfl) (fun W0 G=>LpsOk.nil _) (cs:=[false,true]) (by kernel_rfl) (wbN3_w0 R ty cl ss sq bo kd er f1 f2 d1 d2 nm ot mo pl da ve s p0 h3 hn h6 hg hg7 h4 p1 p2 p3 p4) w e vs hM ha
       |false=>
        have hW:bodW s ty cl ss sq bo kd er f1 f2 d1 d2 nm ot mo pl da ve R=(fiW s d1 d2):=by
         unfold bodW
         rw [ht,cond_false]
         unfold boW
         rw [h3,hn,h6,hg7,hg];rfl
        rw [hW]
        exact ya6 (I:=Id') (fun (W0:World) (G:Nat→Prop)=>SyOk.mk2 Try.mixed yal (FnsR.cons (yq5) (FnsR.nil)) EqsOk.nil) rfl Try.func141 (by kernel_rfl) (fun W0 G=>LpsOk.nil _) (cs:=[false,true]) (by kernel_rfl) (wbN7_w0 R ty cl ss sq bo kd er f1 f2 d1 d2 nm ot mo pl da ve s p0 h3 hn h6 hg hg7 (by have h7:kd=7:=(by rw [hg,Bool.true_and] at hg7;simpa using hg7);exact beq_eq_false_iff_ne.2 (by omega)) p1 p2 p3 p4) w e vs hM ha
      |false=>
       have hW:bodW s ty cl ss sq bo kd er f1 f2 d1 d2 nm ot mo pl da ve R=s:=by
        unfold bodW
        rw [ht,cond_false]
        unfold boW
        rw [h3,hn,h6,hg];rfl
       rw [hW]
       exact ya6 (I:=Id') (fun (W0:World) (G:Nat→Prop)=>SyOk.mk2 Try.mixed yal (FnsR.cons (yq9) (FnsR.nil)) EqsOk.nil) rfl Try.func141 (by kernel_rfl) (fun W0 G=>LpsOk.nil _) (cs:=[false,true]) (by kernel_rfl) (wbN0_w0 R ty cl ss sq bo kd er f1 f2 d1 d2 nm ot mo pl da ve s p0 h3 hn h6 hg (by rw [hg];rfl) (by have:=of_decide_eq_false hg;exact beq_eq_false_iff_ne.2 (by omega)) p1 p2 p3 p4) w e vs hM ha
    |false=>
     cases h1:(ty==1) with
     |true=>
      cases h14:(kd==14) with
      |true=>
       have hW:bodW s ty cl ss sq bo kd er f1 f2 d1 d2 nm ot mo pl da ve R=s:=by
        unfold bodW
        rw [ht,cond_false]
        unfold boW
        rw [h3,hn,h1,h14];rfl
       rw [hW]
       exact ya6 (I:=Id') (fun (W0:World) (G:Nat→Prop)=>SyOk.mk2 Try.mixed yal (FnsR.cons (yoq) (FnsR.nil)) EqsOk.nil) rfl Try.func141 (by kernel_rfl) (fun W0 G=>LpsOk.nil _) (cs:=[false,false,true]) (by kernel_rfl) (wbA14_w0 R ty cl ss sq bo kd er f1 f2 d1 d2 nm ot mo pl da ve s p0 h3 hn h1 h14 p1 p2 p3 p4) w e vs hM ha
      |false=>
       cases ho:(bif kd==8 then kd==8 else kd==13) with
       |true=>
        have hW:bodW s ty cl ss sq bo kd er f1 f2 d1 d2 nm ot mo pl da ve R=((fiW s f1 f2).put (IntKind.u64.wrap mo) 2):=by
         unfold bodW
         rw [ht,cond_false]
         unfold boW
         rw [h3,hn,h1,h14,ho];rfl
        rw [hW]
        exact ya6 (I:=Id') (fun (W0:World) (G:Nat→Prop)=>SyOk.mk2 Try.mixed yal (FnsR.cons (yrc) (FnsR.nil)) EqsOk.nil) rfl Try.func141 (by kernel_rfl) (fun W0 G=>LpsOk.nil _) (cs:=[false,false,true]) (by kernel_rfl) (wbA8_w0 R ty cl ss sq bo kd er f1 f2 d1 d2 nm ot mo pl da ve s p0 h3 hn h1 h14 ho (by have hx:kd=8∨kd=13:=(by cases h8:(kd==8) with|true=>exact .inl (eq_of_beq h8)|false=>(rw [h8] at ho;exact .inr (eq_of_beq ho)));exact beq_eq_false_iff_ne.2 (by omega)) p1 p2 p3 p4) w e vs hM ha
       |false=>
        cases hp9:(bif kd==9 then kd==9 else kd==10) with
        |true=>
         cases h10:(kd==10) with
         |true=>
          have hW:bodW s ty cl ss sq bo kd er f1 f2 d1 d2 nm ot mo pl da ve R=(((fiW s f1 f2).put (IntKind.u64.wrap pl) 3).text da):=by
           unfold bodW
           rw [ht,cond_false]
           unfold boW
           rw [h3,hn,h1,h14,ho,hp9,h10];rfl
          rw [hW]
          exact ya6 (I:=Id') (fun (W0:World) (G:Nat→Prop)=>SyOk.mk2 Try.mixed yal (FnsR.cons (yos) (FnsR.nil)) EqsOk.nil) rfl Try.func141 (by kernel_rfl) (fun W0 G=>LpsOk.nil _) (cs:=[false,false,true]) (by kernel_rfl) (wbA10_w0 R ty cl ss sq bo kd er f1 f2 d1 d2 nm ot mo pl da ve s p0 h3 hn h1 h14 ho hp9 h10 p1 p2 p3 p4) w e vs hM ha
         |false=>
          have hW:bodW s ty cl ss sq bo kd er f1 f2 d1 d2 nm ot mo pl da ve R=((fiW s f1 f2).put (IntKind.u64.wrap pl) 3):=by
           unfold bodW
           rw [ht,cond_false]
           unfold boW
           rw [h3,hn,h1,h14,ho,hp9,h10];rfl
          rw [hW]
          exact ya6 (I:=Id') (fun (W0:World) (G:Nat→Prop)=>SyOk.mk2 Try.mixed yal (FnsR.cons (yrb) (FnsR.nil)) EqsOk.nil) rfl Try.func141 (by kernel_rfl) (fun W0 G=>LpsOk.nil _) (cs:=[false,false,true]) (by kernel_rfl) (wbA9_w0 R ty cl ss sq bo kd er f1 f2 d1 d2 nm ot mo pl da ve s p0 h3 hn h1 h14 ho hp9 h10 p1 p2 p3 p4) w e vs hM ha
        |false=>
         have hW:bodW s ty cl ss sq bo kd er f1 f2 d1 d2 nm ot mo pl da ve R=(fiW s f1 f2):=by
          unfold bodW
          rw [ht,cond_false]
          unfold boW
          rw [h3,hn,h1,h14,ho,hp9];rfl
         rw [hW]
         exact ya6 (I:=Id') (fun (W0:World) (G:Nat→Prop)=>SyOk.mk2 Try.mixed yal (FnsR.cons (yor) (FnsR.nil)) EqsOk.nil) rfl Try.func141 (by kernel_rfl) (fun W0 G=>LpsOk.nil _) (cs:=[false,false,true]) (by kernel_rfl) (wbA11_w0 R ty cl ss sq bo kd er f1 f2 d1 d2 nm ot mo pl da ve s p0 h3 hn h1 h14 ho hp9 (by exact (by cases h9:(kd==9) with|true=>(have:=eq_of_beq h9;subst this;rfl)|false=>(rw [h9] at hp9;exact hp9))) p1 p2 p3 p4) w e vs hM ha
     |false=>
      cases he:(er==0) with
      |true=>
       cases k3:(kd==3) with
       |true=>
        have hW:bodW s ty cl ss sq bo kd er f1 f2 d1 d2 nm ot mo pl da ve R=((fiW s f1 f2).put (IntKind.u64.wrap mo) 2):=by
         unfold bodW
         rw [ht,cond_false]
         unfold boW
         rw [h3,hn,h1,he,k3];rfl
        rw [hW]
        exact ya6 (I:=Id') (fun (W0:World) (G:Nat→Prop)=>SyOk.mk2 Try.mixed yal (FnsR.cons (yvh) (FnsR.nil)) EqsOk.nil) rfl Try.func141 (by kernel_rfl) (fun W0 G=>LpsOk.nil _) (cs:=[false,false,false,true]) (by kernel_rfl) (wbT3_w0 R ty cl ss sq bo kd er f1 f2 d1 d2 nm ot mo pl da ve s p0 h3 hn h1 he k3 p1 p2 p3 p4) w e vs hM ha
       |false=>
        cases k4:(kd==4) with
        |true=>
         have hW:bodW s ty cl ss sq bo kd er f1 f2 d1 d2 nm ot mo pl da ve R=(fiW s f1 f2):=by
          unfold bodW
          rw [ht,cond_false]
          unfold boW
          rw [h3,hn,h1,he,k3,k4];rfl
         rw [hW]
         exact ya6 (I:=Id') (fun (W0:World) (G:Nat→Prop)=>SyOk.mk2 Try.mixed yal (FnsR.cons (yvg) (FnsR.nil)) EqsOk.nil) rfl Try.func141 (by kernel_rfl) (fun W0 G=>LpsOk.nil _) (cs:=[false,false,false,true]) (by kernel_rfl) (wbT4_w0 R ty cl ss sq bo kd er f1 f2 d1 d2 nm ot mo pl da ve s p0 h3 hn h1 he k3 k4 p1 p2 p3 p4) w e vs hM ha
        |false=>
         cases ht4:(bif kd==8 then kd==8 else bif kd==13 then kd==13 else bif kd==10 then kd==10 else kd==11) with
         |true=>
          have hW:bodW s ty cl ss sq bo kd er f1 f2 d1 d2 nm ot mo pl da ve R=(s.put ve 40):=by
           unfold bodW
           rw [ht,cond_false]
           unfold boW
           rw [h3,hn,h1,he,k3,k4,ht4];rfl
          rw [hW]
          exact ya6 (I:=Id') (fun (W0:World) (G:Nat→Prop)=>SyOk.mk2 Try.mixed yal (FnsR.cons (yve) (FnsR.nil)) EqsOk.nil) rfl Try.func141 (by kernel_rfl) (fun W0 G=>LpsOk.nil _) (cs:=[false,false,false,true]) (by kernel_rfl) (wbT8_w0 R ty cl ss sq bo kd er f1 f2 d1 d2 nm ot mo pl da ve s p0 h3 hn h1 he k3 k4 (by rw [yjv,h3,h1,he] at ht;simpa using ht) ht4 p1 p2 p3 p4) w e vs hM ha
         |false=>
          cases h9:(kd==9) with
          |true=>
           have hW:bodW s ty cl ss sq bo kd er f1 f2 d1 d2 nm ot mo pl da ve R=((s.text da).put ve 40):=by
            unfold bodW
            rw [ht,cond_false]
            unfold boW
            rw [h3,hn,h1,he,k3,k4,ht4,h9];rfl
           rw [hW]
           exact ya6 (I:=Id') (fun (W0:World) (G:Nat→Prop)=>SyOk.mk2 Try.mixed yal (FnsR.cons (yvd) (FnsR.nil)) EqsOk.nil) rfl Try.func141 (by kernel_rfl) (fun W0 G=>LpsOk.nil _) (cs:=[false,false,false,true]) (by kernel_rfl) (wbT9_w0 R ty cl ss sq bo kd er f1 f2 d1 d2 nm ot mo pl da ve s p0 h3 hn h1 he k3 k4 (by rw [yjv,h3,h1,he] at ht;simpa using ht) ht4 h9 p1 p2 p3 p4) w e vs hM ha
          |false=>
           have hW:bodW s ty cl ss sq bo kd er f1 f2 d1 d2 nm ot mo pl da ve R=s:=by
            unfold bodW
            rw [ht,cond_false]
            unfold boW
            rw [h3,hn,h1,he,k3,k4,ht4,h9];rfl
           rw [hW]
           exact ya6 (I:=Id') (fun (W0:World) (G:Nat→Prop)=>SyOk.mk2 Try.mixed yal (FnsR.cons (yvi) (FnsR.nil)) EqsOk.nil) rfl Try.func141 (by kernel_rfl) (fun W0 G=>LpsOk.nil _) (cs:=[false,false,false,true]) (by kernel_rfl) (wbT0_w0 R ty cl ss sq bo kd er f1 f2 d1 d2 nm ot mo pl da ve s p0 h3 hn h1 he k3 k4 (by rw [yjv,h3,h1,he] at ht;simpa using ht) ht4 h9 p1 p2 p3 p4) w e vs hM ha
      |false=>
       have hW:bodW s ty cl ss sq bo kd er f1 f2 d1 d2 nm ot mo pl da ve R=s:=by
        unfold bodW
        rw [ht,cond_false]
        unfold boW
        rw [h3,hn,h1,he];rfl
       rw [hW]
       exact ya6 (I:=Id') (fun (W0:World) (G:Nat→Prop)=>SyOk.mk2 Try.mixed yal (FnsR.nil) EqsOk.nil) rfl Try.func141 (by kernel_rfl) (fun W0 G=>LpsOk.nil _) (cs:=[false,false,false,false]) (by kernel_rfl) (wbE_w0 R ty cl ss sq bo kd er f1 f2 d1 d2 nm ot mo pl da ve s p0 h3 hn h1 he p1 p2 p3 p4) w e vs hM ha
 ·cases h
theorem R_wb:RowOk Try.prog Id' yaj 141 (ctrF Id' C_wb yaj):=ydi Try.call141 C_wb_ok
theorem bifn {b:Bool} {x y:WS} {N:Nat} (hx:x.n≤N) (hy:y.n≤N):(bif b then x else y).n≤N:=by cases b<;>assumption
theorem bodW_n {s:WS} {ty cl ss sq bo kd er f1 f2 d1 d2:Int} {nm ot:ByteArray} {mo pl:Int} {da:ByteArray} {ve:Int} {R:List Rw} (hs:s.n≤448) (hR:R.length≤100):(bodW s ty cl ss sq bo kd er f1 f2 d1 d2 nm ot mo pl da ve R).n≤90000000:=by
 unfold bodW
 cases yjv ty kd er with
 |true=>
  rw [cond_true,enW_n]
  show s.n+64+R.length * 524496≤90000000
  omega
 |false=>
  rw [cond_false]
  unfold boW
  repeat' apply bifn
  all_goals first|omega|(simp only [fiW,WS.put,WS.text];omega)
namespace Mm
theorem ypm (s:ByteArray):yke s=nameB s:=by
 unfold yke
 cases nameB s<;>rfl
theorem yub (x y:Int):ysl x y=rfileB x y:=by
 rw [Bool.eq_iff_iff]
 simp [ysl,rfileB]
 omega
theorem yk6 (x:Int):yk7 x=rcountB x:=by
 rw [Bool.eq_iff_iff]
 simp [yk7,rcountB]
 omega
theorem entryB_eq (nm:ByteArray) (a b c:Int):yml nm a b c=refEntB nm a b c:=by
 have two:twoB c=(decide (c>0)&&decide (c<3)):=by
  rw [Bool.eq_iff_iff]
  simp [twoB]
  omega
 simp only [yml,refEntB,ypm,yub,two,rfileB,Bool.and_assoc]
theorem checkI_04 (m:Msg):checkI m=0∨checkI m=4:=by
 unfold checkI
 cases m.ty==1<;>cases m.ty==2<;>cases m.ty==3<;>cases req2 m<;>cases rep2 m<;>cases rec2 m<;>decide
end Mm
namespace Mm
theorem yt1:∀ a b:List UInt8,(!Op.bytesLess a b)=(Op.bytesLess b a||b==a)
 |[],[]=>rfl
 |[],y::ys=>rfl
 |x::xs,[]=>rfl
 |x::xs,y::ys=>by
  have ih:=yt1 xs ys
  simp only [Op.bytesLess]
  by_cases h1:x<y
  ·simp [h1,UInt8.lt_asymm h1,UInt8.ne_of_lt h1,(UInt8.ne_of_lt h1).symm]
  ·by_cases h2:y<x
   ·simp [h1,h2,UInt8.ne_of_lt h2,(UInt8.ne_of_lt h2).symm]
   ·have:x=y:=UInt8.le_antisymm (UInt8.not_lt.1 h2) (UInt8.not_lt.1 h1)
    subst this
    simp [h1,ih]
theorem badE_eq (l:List Ent) (k:Nat):badE l k=badR l k:=by
 unfold badE badR geS leS
 rw [entryB_eq,yt1]
theorem goodsE_eq (l:List Ent):yix l=riseB l:=by
 unfold yix riseB
 simp only [badE_eq]
theorem okB_cond (n f:Int) (z r:Bool):okB n f z r=cond (andI n f==0) z r:=by
 unfold okB bne
 cases andI n f==0<;>cases z<;>cases r<;>rfl
def yww (n:Int) (s:ByteArray):Bool:=(hasL s 102==!(andI n 1==0))&&(hasL s 100==!(andI n 2==0))&&(hasL s 110==!(andI n 4==0))&&(hasL s 111==!(andI n 8==0))&&(hasL s 107==!(andI n 16==0))&&(hasL s 97==!(andI n 32==0))&&(hasL s 116==!(andI n 64==0))&&(hasL s 118==!(andI n 128==0))&&(hasL s 101==!(andI n 256==0))
theorem yqk (b z r:Bool) {rest rest':Bool} (h:rest=rest'):(cond b z r&&rest)=cond (((!b)&&!r)||(!(!b)&&!z)) false rest':=by
 subst h
 cases b<;>cases z<;>cases r<;>cases rest<;>rfl
theorem yjk {n:Int} {s:ByteArray} (m:Msg) (h:yww n s=true):hasB m n=justB m s:=by
 obtain ⟨ty,cl,ss,sq,bo,kd,er,f1,f2,d1,d2,nm,ot,mo,pl,da,ve,en⟩:=m
 simp only [yww,zbs,beq_iff_eq] at h
 obtain ⟨⟨⟨⟨⟨⟨⟨⟨h1,h2⟩,h3⟩,h4⟩,h5⟩,h6⟩,h7⟩,h8⟩,h9⟩:=h
 have p6:(decide (pl<0)||decide (pl>7))=!(decide (pl≥0)&&decide (pl<8)):=by rw [Bool.eq_iff_iff];simp;omega
 have p7:decide ((da.size:Int)>64)=!decide ((da.size:Int)≤64):=by rw [Bool.eq_iff_iff];simp
 have p8:decide (ve>1099511627775)=!decide (ve≤1099511627775):=by rw [Bool.eq_iff_iff];simp
 have p9:entsR en=ygs en:=by unfold entsR ygs;rw [goodsE_eq];cases riseB en<;>rfl
 simp only [hasB,hasPre,justB,okB_cond,h1,h2,h3,h4,h5,h6,h7,h8,h9,p6,p7,p8,p9,badF,yub,ypm,twoB,bne]
 change (cond _ (f1==0&&f2==0) (rfileB f1 f2)&&cond _ (d1==0&&d2==0) (rfileB d1 d2)&&cond _ (eqS nm emp) (nameB nm)&&cond _ (eqS ot emp) (nameB ot)&&_&&_&&cond _ (eqS da emp) _&&_&&_)=_
 have q1:eqT nm emp'=eqS nm emp:=rfl
 have q2:eqT ot emp'=eqS ot emp:=rfl
 have q3:eqT da emp'=eqS da emp:=rfl
 rw [q1,q2,q3]
 generalize (f1==0&&f2==0)=z1
 generalize rfileB f1 f2=r1
 generalize (d1==0&&d2==0)=z2
 generalize rfileB d1 d2=r2
 generalize eqS nm emp=z3
 generalize nameB nm=r3
 generalize eqS ot emp=z4
 generalize nameB ot=r4
 generalize (mo==0)=z5
 generalize (mo==1||mo==2)=r5
 generalize (pl==0)=z6
 generalize (decide (pl≥0)&&decide (pl<8))=r6
 generalize eqS da emp=z7
 generalize decide ((da.size:Int)≤64)=r7
 generalize (ve==0)=z8
 generalize decide (ve≤1099511627775)=r8
 generalize ((en.length:Int)==0)=z9
 generalize ygs en=r9
 simp only [Bool.and_assoc]
 refine yqk _ _ _ ?_
 refine yqk _ _ _ ?_
 refine yqk _ _ _ ?_
 refine yqk _ _ _ ?_
 refine yqk _ _ _ ?_
 refine yqk _ _ _ ?_
 refine yqk _ _ _ ?_
 refine yqk _ _ _ ?_
 cases (andI n 256==0)<;>rfl
end Mm
namespace Mm
theorem ys2 {k:Int} (h:1≤k∧k≤14):yww (yuq k) (fieldsS false k)=true:=by
 have hk:k=1∨k=2∨k=3∨k=4∨k=5∨k=6∨k=7∨k=8∨k=9∨k=10∨k=11∨k=12∨k=13∨k=14:=by omega
 rcases hk with rfl|rfl|rfl|rfl|rfl|rfl|rfl|rfl|rfl|rfl|rfl|rfl|rfl|rfl
 all_goals decide +kernel
theorem ywu {k:Int} (h:1≤k∧k≤14):yww (toldI k) (fieldsS true k)=true:=by
 have hk:k=1∨k=2∨k=3∨k=4∨k=5∨k=6∨k=7∨k=8∨k=9∨k=10∨k=11∨k=12∨k=13∨k=14:=by omega
 rcases hk with rfl|rfl|rfl|rfl|rfl|rfl|rfl|rfl|rfl|rfl|rfl|rfl|rfl|rfl
 all_goals decide +kernel
theorem ywv:yww 0 noneS=true:=by kernel_rfl
theorem agree_f:yww 1 fS=true:=by kernel_rfl
theorem check_is (m:Msg):(checkI m==0)=isR m:=by
 have ha:=fun h=>yjk m (ys2 (k:=m.kd) h)
 have ht:=fun h=>yjk m (ywu (k:=m.kd) h)
 have hn:=yjk m ywv
 have hf:=yjk m agree_f
 have hb:∀ x,(cond (!x) (4:Int) 0==0)=x:=by decide
 unfold checkI isR
 by_cases h3:m.ty=3
 ·rw [h3]
  show (cond (!rec2 m) (4:Int) 0==0)=_
  rw [hb,rec2,hf]
  have:rec1 m=(!i1 m&&i2 m):=by
   unfold rec1 ypx i1 i2
   simp only [yk6,h3]
   generalize rcountB m.ss=qa
   generalize rcountB m.sq=qb
   generalize rcountB m.bo=qc
   rw [Bool.eq_iff_iff]
   cases qa<;>cases qb<;>cases qc<;>simp<;>omega
  rw [this]
  show _=cond (i1 m) false (i2 m&&justB m fS)
  cases i1 m<;>simp
 ·have e3:=beq_false_of_ne h3
  rw [e3]
  by_cases hk:1≤m.kd∧m.kd≤14
  ·by_cases h1:m.ty=1
   ·rw [h1]
    show (cond (!req2 m) (4:Int) 0==0)=cond (i1 m) false (cond (i3 m) false (i4 m&&justB m (fieldsS false m.kd)))
    rw [hb,req2,ha hk]
    have:req1 m=(!i1 m&&(!i3 m&&i4 m)):=by
     unfold req1 ypx yv5 i1 i3 i4
     simp only [yk6,h1]
     generalize rcountB m.ss=qa
     generalize rcountB m.sq=qb
     generalize rcountB m.bo=qc
     rw [Bool.eq_iff_iff]
     cases qa<;>cases qb<;>cases qc<;>simp<;>omega
    rw [this]
    cases i1 m<;>cases i3 m<;>simp
   ·have e1:=beq_false_of_ne h1
    rw [e1]
    by_cases h2:m.ty=2
    ·rw [h2]
     show (cond (!rep2 m) (4:Int) 0==0)=cond (i1 m) false (cond (i3 m) false (cond (i5 m) false (cond (m.er != 0) (justB m noneS) (justB m (fieldsS true m.kd)))))
     rw [hb,rep2,ht hk,hn]
     have:rep1 m=(!i1 m&&(!i3 m&&!i5 m)):=by
      unfold rep1 ypx yv5 i1 i3 i5
      simp only [yk6,h2]
      generalize rcountB m.ss=qa
      generalize rcountB m.sq=qb
      generalize rcountB m.bo=qc
      rw [Bool.eq_iff_iff]
      cases qa<;>cases qb<;>cases qc<;>simp<;>omega
     rw [this,bne]
     cases i1 m<;>cases i3 m<;>cases i5 m<;>cases (m.er==0)<;>simp
    ·rw [beq_false_of_ne h2]
     have:i3 m=true:=by
      simp [i3]
      omega
     rw [this]
     cases i1 m<;>rfl
  ·have hkn:yv5 m=false:=by
    simp [yv5]
    omega
   have h3':i3 m=true:=by
    simp [i3]
    omega
   rw [h3',req2,rep2,req1,rep1,hkn]
   cases i1 m<;>cases m.ty==1<;>cases m.ty==2<;>simp
end Mm
structure MQ where
 ty:Int
 cl:Int
 ss:Int
 sq:Int
 bo:Int
 kd:Int
 er:Int
 f1:Int
 f2:Int
 d1:Int
 d2:Int
 nm:ByteArray
 ot:ByteArray
 mo:Int
 pl:Int
 da:ByteArray
 ve:Int
 R:List Rw
def MQ.m (q:MQ):Mm.Msg:=⟨q.ty,q.cl,q.ss,q.sq,q.bo,q.kd,q.er,q.f1,q.f2,q.d1,q.d2,q.nm,q.ot,q.mo,q.pl,q.da,q.ve,ents q.R⟩
def docT (f d n o k a t v e:Bool) (q:MQ):List Bool:=
 let b0:=hdB q.ty q.cl q.ss q.sq q.bo q.kd q.er
 let b1:=bif f then b0++fiB q.f1 q.f2 else b0
 let b2:=bif d then b1++fiB q.d1 q.d2 else b1
 let b3:=bif n then b2++ya2 q.nm.data.toList else b2
 let b4:=bif o then b3++ya2 q.ot.data.toList else b3
 let b5:=bif k then b4++yaf (IntKind.u64.wrap q.mo).toNat 2 else b4
 let b6:=bif a then b5++yaf (IntKind.u64.wrap q.pl).toNat 3 else b5
 let b7:=bif t then b6++ya2 q.da.data.toList else b6
 let b8:=bif v then b7++yaf q.ve.toNat 40 else b7
 bif e then enB7 (b8++yaf (IntKind.u64.wrap (q.R.length:Int)).toNat 5) q.R q.R.length else b8
def MQ.s (q:MQ):ByteArray:=fl17 q.ty q.kd q.er
def docS (s:ByteArray) (q:MQ):List Bool:=docT (Mm.hasL s 102) (Mm.hasL s 100) (Mm.hasL s 110) (Mm.hasL s 111) (Mm.hasL s 107) (Mm.hasL s 97) (Mm.hasL s 116) (Mm.hasL s 118) (Mm.hasL s 101) q
def docB (q:MQ):List Bool:=docS q.s q
def encE (q:MQ):List UInt8×Int:=bif Mm.isR q.m then (yao (docB q),0) else ([],4)
structure Just (q:MQ) (s:ByteArray):Prop where
 f:Mm.hasL s 102=true→Mm.rfileB q.f1 q.f2=true
 d:Mm.hasL s 100=true→Mm.rfileB q.d1 q.d2=true
 n:Mm.hasL s 110=true→Mm.nameB q.nm=true
 o:Mm.hasL s 111=true→Mm.nameB q.ot=true
 k:Mm.hasL s 107=true→q.mo=1∨q.mo=2
 a:Mm.hasL s 97=true→0≤q.pl∧q.pl≤7
 t:Mm.hasL s 116=true→q.da.size≤64
 v:Mm.hasL s 118=true→q.ve≤1099511627775
 e:Mm.hasL s 101=true→Mm.entsR (ents q.R)=true
 f0:Mm.hasL s 102=false→q.f1=0∧q.f2=0
 d0:Mm.hasL s 100=false→q.d1=0∧q.d2=0
 n0:Mm.hasL s 110=false→q.nm=⟨#[]⟩
 o0:Mm.hasL s 111=false→q.ot=⟨#[]⟩
 k0:Mm.hasL s 107=false→q.mo=0
 a0:Mm.hasL s 97=false→q.pl=0
 t0:Mm.hasL s 116=false→q.da=⟨#[]⟩
 v0:Mm.hasL s 118=false→q.ve=0
 e0:Mm.hasL s 101=false→q.R=[]
theorem yd1 {a b:Bool} (h:cond a false b=true):a=false∧b=true:=by cases a<;>simp_all
theorem yi1 {h nr nz:Bool} (x:Mm.badF h nr nz=false):(h=true→nr=false)∧(h=false→nz=false):=by
 cases h<;>cases nr<;>cases nz<;>simp_all [Mm.badF]
theorem or_of_ff {m:Int} (h:(!(m==1||m==2))=false):m=1∨m=2:=by
 simp only [Bool.not_eq_false',zbt,beq_iff_eq] at h
 exact h
theorem emp_of {s:ByteArray} (h:(!Mm.eqT s Mm.emp')=false):s=⟨#[]⟩:=by
 have h1:s.toList=(Mm.emp').toList:=by simpa [Mm.eqT] using h
 rw [ByteArray.toList_eq,ByteArray.toList_eq] at h1
 have h2:s.data.toList=[]:=h1
 obtain ⟨d⟩:=s
 obtain ⟨l⟩:=d
 have h3:l=[]:=h2
 rw [h3]
theorem ynw {q:MQ} {s:ByteArray} (h:Mm.justB q.m s=true):Just q s:=by
 obtain ⟨ty,cl,ss,sq,bo,kd,er,f1,f2,d1,d2,nm,ot,mo,pl,da,ve,R⟩:=q
 unfold MQ.m Mm.justB at h
 dsimp only at h
 obtain ⟨a1,h⟩:=yd1 h
 obtain ⟨a2,h⟩:=yd1 h
 obtain ⟨a3,h⟩:=yd1 h
 obtain ⟨a4,h⟩:=yd1 h
 obtain ⟨a5,h⟩:=yd1 h
 obtain ⟨a6,h⟩:=yd1 h
 obtain ⟨a7,h⟩:=yd1 h
 obtain ⟨a8,h⟩:=yd1 h
 have b1:=yi1 a1
 have b2:=yi1 a2
 have b3:=yi1 a3
 have b4:=yi1 a4
 have b5:=yi1 a5
 have b6:=yi1 a6
 have b7:=yi1 a7
 have b8:=yi1 a8
 refine ⟨fun x=>by simpa using b1.1 x,fun x=>by simpa using b2.1 x,fun x=>by simpa using b3.1 x,fun x=>by simpa using b4.1 x,fun x=>or_of_ff (b5.1 x),fun x=>?_,fun x=>?_,fun x=>?_,fun x=>?_,fun x=>by simpa using b1.2 x,fun x=>by simpa using b2.2 x,fun x=>emp_of (b3.2 x),fun x=>emp_of (b4.2 x),fun x=>by simpa using b5.2 x,fun x=>by simpa using b6.2 x,fun x=>emp_of (b7.2 x),fun x=>by simpa using b8.2 x,fun x=>?_⟩
 ·have:=b6.1 x
  simp only [zbu,decide_eq_false_iff_not] at this
  show 0≤pl∧pl≤7
  omega
 ·have:=b7.1 x
  simp only [decide_eq_false_iff_not] at this
  show da.size≤64
  omega
 ·have:=b8.1 x
  simp only [decide_eq_false_iff_not] at this
  show ve≤1099511627775
  omega
 ·have x':Mm.hasL s 101=true:=x
  rw [x'] at h
  exact h
 ·have x':Mm.hasL s 101=false:=x
  rw [x'] at h
  have h1:(((ents R).length:Int)==0)=true:=h
  have h2:((ents R).length:Int)=0:=by simpa using h1
  have h3:(ents R).length=R.length:=by show (R.map ym7).length=_;simp
  rw [h3] at h2
  have h4:R.length=0:=by omega
  exact List.length_eq_zero_iff.1 h4
structure Hd (q:MQ):Prop where
 ty:1≤q.ty∧q.ty≤3
 cl:0≤q.cl∧q.cl≤7
 ss:0≤q.ss∧q.ss<1099511627776
 sq:0≤q.sq∧q.sq<1099511627776
 bo:0≤q.bo∧q.bo<1099511627776
 kd:0≤q.kd∧q.kd≤14
 er:0≤q.er∧q.er≤25
 so:q.ty=3∨1≤q.kd
 re:q.ty=1→q.er=0
 rc:q.ty=3→q.kd=0∧q.er=0
theorem yfy {x:Int} (h:Mm.rcountB x=true):0≤x∧x<1099511627776:=by
 simp only [Mm.rcountB,zbs,decide_eq_true_eq] at h
 omega
theorem ypu {q:MQ} (h:Mm.isR q.m=true):Hd q∧Just q q.s:=by
 unfold Mm.isR at h
 obtain ⟨h1,h⟩:=yd1 h
 have k1:(0≤q.cl∧q.cl≤7)∧(0≤q.ss∧q.ss<1099511627776):=by
  simp only [Mm.i1,zbu,decide_eq_false_iff_not] at h1
  obtain ⟨⟨h1,h2⟩,h3⟩:=h1
  have h1:¬ q.cl<0:=h1
  have h2:¬ q.cl>7:=h2
  have h3:(!Mm.rcountB q.ss)=false:=h3
  exact ⟨by omega,yfy (by simpa using h3)⟩
 cases h3:(q.m.ty==3) with
 |true=>
  rw [h3] at h
  simp only [cond_true,zbs] at h
  obtain ⟨g1,g2⟩:=h
  have e3:q.ty=3:=eq_of_beq h3
  simp only [Mm.i2,zbs,beq_iff_eq] at g1
  obtain ⟨⟨⟨g3,g4⟩,g5⟩,g6⟩:=g1
  have g3:q.sq=0:=g3
  have g4:Mm.rcountB q.bo=true:=g4
  have g5:q.kd=0:=g5
  have g6:q.er=0:=g6
  have:=yfy g4
  refine ⟨⟨by omega,k1.1,k1.2,by omega,this,by omega,by omega,.inl e3,by omega,fun _=>⟨g5,g6⟩⟩,?_⟩
  have es:q.s=Mm.fS:=by
   show fl17 q.ty q.kd q.er=_
   unfold fl17
   rw [e3];rfl
  rw [es]
  exact ynw g2
 |false=>
  rw [h3] at h
  simp only [cond_false] at h
  have n3:q.ty≠3:=beq_eq_false_iff_ne.1 h3
  obtain ⟨h4,h⟩:=yd1 h
  simp only [Mm.i3,zbu,decide_eq_false_iff_not] at h4
  obtain ⟨⟨⟨⟨h5,h6⟩,h7⟩,h8⟩,h9⟩:=h4
  have h5:(!Mm.rcountB q.sq)=false:=h5
  have h6:¬ q.kd<1:=h6
  have h7:¬ q.kd>14:=h7
  have h8:¬ q.ty<1:=h8
  have h9:¬ q.ty>2:=h9
  have hs:=yfy (x:=q.sq) (by simpa using h5)
  cases h10:(q.m.ty==1) with
  |true=>
   rw [h10] at h
   simp only [cond_true,zbs] at h
   obtain ⟨g1,g2⟩:=h
   have e1:q.ty=1:=eq_of_beq h10
   simp only [Mm.i4,zbs,beq_iff_eq,zbt] at g1
   obtain ⟨g3,g4⟩:=g1
   have g3:q.er=0:=g3
   have hb:0≤q.bo∧q.bo<1099511627776:=by
    rcases g4 with ⟨_,g4⟩|⟨_,g4⟩
    ·have g4:q.bo=0:=g4
     omega
    ·exact yfy g4
   refine ⟨⟨by omega,k1.1,k1.2,hs,hb,by omega,by omega,.inr (by omega),fun _=>g3,by omega⟩,?_⟩
   have es:q.s=Mm.fieldsS false q.kd:=by
    show fl17 q.ty q.kd q.er=_
    unfold fl17
    rw [e1,g3];rfl
   rw [es]
   exact ynw g2
  |false=>
   rw [h10] at h
   simp only [cond_false] at h
   have n1:q.ty≠1:=beq_eq_false_iff_ne.1 h10
   have e2:q.ty=2:=by omega
   obtain ⟨g1,g2⟩:=yd1 h
   simp only [Mm.i5,zbu,decide_eq_false_iff_not] at g1
   obtain ⟨⟨g3,g4⟩,g5⟩:=g1
   have g3:¬ q.er<0:=g3
   have g4:¬ q.er>25:=g4
   have g5:(!Mm.rcountB q.bo)=false:=g5
   have hb:=yfy (x:=q.bo) (by simpa using g5)
   refine ⟨⟨by omega,k1.1,k1.2,hs,hb,by omega,by omega,.inr (by omega),by omega,by omega⟩,?_⟩
   cases h11:(q.m.er != 0) with
   |true=>
    rw [h11] at g2
    have es:q.s=Mm.noneS:=by
     show fl17 q.ty q.kd q.er=_
     have h11:(q.er != 0)=true:=h11
     unfold fl17
     rw [e2,h11];rfl
    rw [es]
    exact ynw g2
   |false=>
    rw [h11] at g2
    have es:q.s=Mm.fieldsS true q.kd:=by
     show fl17 q.ty q.kd q.er=_
     have h11:(q.er != 0)=false:=h11
     unfold fl17
     rw [e2,h11];rfl
    rw [es]
    exact ynw g2
def Wb (s:WS) (b:List Bool):Prop:=s.err=0∧s.bl=b
theorem Wb.new:Wb WS.new []:=⟨rfl,rfl⟩
theorem Wb.put {s:WS} {b:List Bool} (h:Wb s b) {x:Int} {w:Nat} (hw:w≤64) (hx:x.toNat<2 ^ w):Wb (s.put x (w:Int)) (b++yaf x.toNat w):=by
 have hf:yp8 x.toNat (w:Int):=⟨by omega,by omega,by rw [Int.toNat_natCast];exact hx⟩
 refine ⟨?_,?_⟩
 ·simp only [WS.put,putE];rw [if_neg (fun hh=>hh.2 hf)];exact h.1
 ·simp only [WS.put,putL];rw [if_pos ⟨h.1,hf⟩,h.2];rfl
theorem Wb.putI {s:WS} {b:List Bool} (h:Wb s b) {x:Int} {w:Nat} (hw:w≤31) (hx:0≤x∧x<((2 ^ w:Nat):Int)):Wb (s.put (IntKind.u64.wrap x) (w:Int)) (b++yaf (IntKind.u64.wrap x).toNat w):=by
 have hp:(2:Nat) ^ w≤2 ^ 31:=Nat.pow_le_pow_right (by decide) hw
 have e:(2:Nat) ^ 31=2147483648:=by decide
 rw [e] at hp
 refine h.put (by omega) ?_
 rw [u64w_id (by generalize (2:Nat) ^ w=m at *;omega)]
 generalize (2:Nat) ^ w=m at *
 omega
theorem Wb.text {s:WS} {b:List Bool} (h:Wb s b) (t:ByteArray):Wb (s.text t) (b++ya2 t.data.toList):=by
 refine ⟨h.1,?_⟩
 simp only [WS.text,yvk]
 rw [if_pos h.1,h.2]
theorem in_6 {x:Int} (h:0<x∧x<41):0≤x∧x<((2 ^ 6:Nat):Int):=by
 have:((2 ^ 6:Nat):Int)=64:=by decide
 rw [this];omega
theorem in_31 {x:Int} (h:0≤x∧x<2147483648):0≤x∧x<((2 ^ 31:Nat):Int):=by
 have:((2 ^ 31:Nat):Int)=2147483648:=by decide
 rw [this];omega
theorem Wb.fi {s:WS} {b:List Bool} (h:Wb s b) {x y:Int} (hf:Mm.rfileB x y=true):Wb (fiW s x y) (b++fiB x y):=by
 simp only [Mm.rfileB,zbs,decide_eq_true_eq] at hf
 have h1:=(h.putI (x:=x) (w:=6) (by decide) (in_6 (by omega))).putI (x:=y) (w:=31) (by decide) (in_31 (by omega))
 rw [List.append_assoc] at h1
 exact h1
theorem Wb.hd {q:MQ} (h:Hd q):Wb (hdW q.ty q.cl q.ss q.sq q.bo q.kd q.er) (hdB q.ty q.cl q.ss q.sq q.bo q.kd q.er):=by
 obtain ⟨h1,h2,h3,h4,h5,h6,h7,_,_,_⟩:=h
 have e40:(2:Nat) ^ 40=1099511627776:=by decide
 have e2:((2 ^ 2:Nat):Int)=4:=by decide
 have e3:((2 ^ 3:Nat):Int)=8:=by decide
 have e4:((2 ^ 4:Nat):Int)=16:=by decide
 have e5:((2 ^ 5:Nat):Int)=32:=by decide
 exact ((((((Wb.new.putI (x:=q.ty) (w:=2) (by decide) (by rw [e2];omega)).putI (x:=q.cl) (w:=3) (by decide) (by rw [e3];omega)).put (x:=q.ss) (w:=40) (by decide) (by rw [e40];omega)).put (x:=q.sq) (w:=40) (by decide) (by rw [e40];omega)).put (x:=q.bo) (w:=40) (by decide) (by rw [e40];omega)).putI (x:=q.kd) (w:=4) (by decide) (by rw [e4];omega)).putI (x:=q.er) (w:=5) (by decide) (by rw [e5];omega)
theorem ynh {R:List Rw} (h:Mm.entsR (ents R)=true):R.length≤24∧∀ k,k<R.length→Mm.refEntB ((R.getD k Rw.zero).ss.getD 0 ⟨#[]⟩) ((R.getD k Rw.zero).is.getD 0 0) ((R.getD k Rw.zero).is.getD 1 0) ((R.getD k Rw.zero).is.getD 2 0)=true:=by
 unfold Mm.entsR at h
 simp only [zbs,decide_eq_true_eq] at h
 obtain ⟨h1,h2⟩:=h
 have hl:(ents R).length=R.length:=by show (R.map ym7).length=_;simp
 rw [hl] at h2
 have h1:Mm.riseB (ents R)=true:=by cases hr:Mm.riseB (ents R) with
  |true=>rfl
  |false=>rw [hr] at h1;cases h1
 refine ⟨by omega,fun k hk=>?_⟩
 unfold Mm.riseB at h1
 rw [List.all_eq_true] at h1
 have:=h1 k (by rw [List.mem_range,hl];exact hk)
 simp only [Bool.not_eq_true',Mm.badR,zbu] at this
 have h3:=this.1
 have he:Mm.entAt (ents R) k=ym7 (R.getD k Rw.zero):=by
  show (ents R).getD k Mm.Ent.zero=_
  rw [zaf,zaf]
  show ((R.map ym7)[k]?).getD _=_
  rw [List.getElem?_map,List.getElem?_eq_getElem hk];rfl
 rw [he] at h3
 have h5:=(Bool.not_eq_false' _).mp h3
 exact h5
theorem Wb.ents {s:WS} {b:List Bool} (h:Wb s b) {R:List Rw} (hR:Mm.entsR (ents R)=true):∀ k,k≤R.length→Wb (enW s R k) (enB7 b R k)
 |0,_=>h
 |k+1,hk=>by
  have ih:=Wb.ents h hR k (by omega)
  have:=(ynh hR).2 k (by omega)
  simp only [Mm.refEntB,zbs,decide_eq_true_eq] at this
  obtain ⟨⟨⟨⟨⟨⟨_,a1⟩,a2⟩,a3⟩,a4⟩,a5⟩,a6⟩:=this
  have e2:((2 ^ 2:Nat):Int)=4:=by decide
  exact ((ih.text _).fi (by simp only [Mm.rfileB,zbs,decide_eq_true_eq];exact ⟨⟨⟨a1,a2⟩,a3⟩,a4⟩)).putI (w:=2) (by decide) (by rw [e2];omega)
end Go.Proofs.Ytiiekgcjilelpaa
