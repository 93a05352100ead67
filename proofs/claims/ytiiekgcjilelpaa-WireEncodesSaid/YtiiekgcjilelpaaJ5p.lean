/- J4 J81 J31 J62 J5bad J63 J5. -/
import Derived.Test.YtiiekgcjilelpaaJ3p
import Derived.Test.YtiiekgcjilelpaaJ2p
import Derived.Test.YtiiekgcjilelpaaJ60p
import Derived.Test.YtiiekgcjilelpaaJ21p
import Derived.Test.YtiiekgcjilelpaaJ61p
import Derived.Test.YtiiekgcjilelpaaJ50p
import Derived.Test.YtiiekgcjilelpaaJ52p
open List renaming getElem?_eq_getElem → zaa, getD_eq_getElem?_getD → zaf
open Nat renaming lt_of_le_of_lt → zbi, le_trans → zbl, le_refl → zbm, zero_le → zbn
open Bool renaming and_eq_true → zbs
set_option maxRecDepth 100000
set_option linter.unusedSimpArgs false
set_option linter.unusedVariables false
namespace Go.Proofs.Ytiiekgcjilelpaa
open Go.RowKit
def ytb (P:Program) (f_wBodyR f_wFile f_wInt:Func):Nat×Fn2 Td:=(141,ctrF Id' (ydr (⟨P,[wFile P f_wFile f_wInt],[],dkHo,Id'.one,60⟩:Sy Td) [] f_wBodyR [true]) yaj)
theorem yop:RowOk Try.prog Id' yaj (ytb Try.prog Try.f141 Try.f215 Try.f213).1 (ytb Try.prog Try.f141 Try.f215 Try.f213).2:=ybh (fun (W0:World) (G:Nat→Prop)=>SyOk.mk2 Try.mixed yal (FnsR.cons (wFile_ok) (FnsR.nil)) EqsOk.nil) rfl Try.func141 (by kernel_rfl) (fun _ _=>LpsOk.nil _) [true] Try.call141
theorem encR_w0 (ty cl ss sq bo kd er f1 f2 d1 d2:Int) (nm ot:ByteArray) (mo pl:Int) (da:ByteArray) (ve:Int) (h0:(Mm.checkI (⟨ty,cl,ss,sq,bo,kd,er,f1,f2,d1,d2,nm,ot,mo,pl,da,ve,ents []⟩:Mm.Msg) != 0)=false) (h1:0≤ss∧ss<18446744073709551616) (h2:0≤sq∧sq<18446744073709551616) (h3:0≤bo∧bo<18446744073709551616) (h4:(ty==3)=true):∃ qs,wayO Id' ([]:Mem Td).length [⟨.us (.own (fiW (hdW ty cl ss sq bo kd er) f1 f2).out),true⟩] (.tup [.one (.obj 0),.one (.v (.int .i64 (fiW (hdW ty cl ss sq bo kd er) f1 f2).err))]) ((ybu (⟨Try.prog,[(139,ctrV C_mck yaj),(F_new (hx:=yag):Nat×Fn2 Td),(yu7 (hx:=yag):Nat×Fn2 Td),(140,ctrF Id' C_whN yaj),(ytb Try.prog Try.f141 Try.f215 Try.f213)],[],dkHo,Id'.one,60⟩:Sy Td) [(100005,mapG (yg7 toBx 0) (⟨Try.prog,[(139,ctrV C_mck yaj),(F_new (hx:=yag):Nat×Fn2 Td),(yu7 (hx:=yag):Nat×Fn2 Td),(140,ctrF Id' C_whN yaj),(ytb Try.prog Try.f141 Try.f215 Try.f213)],[],dkHo,Id'.one,60⟩:Sy Td) 22 (regO 5 (yat Try.f34)) (drwR 5 (yat Try.f34)))] Try.f34 [.agg [.v (.int .i64 ty),.v (.int .i64 cl),.v (.int .u64 ss),.v (.int .u64 sq),.v (.int .u64 bo),.v (.int .i64 kd),.v (.int .i64 er),.v (.int .i64 f1),.v (.int .i64 f2),.v (.int .i64 d1),.v (.int .i64 d2),.v (.string nm),.v (.string ot),.v (.int .i64 mo),.v (.int .i64 pl),.v (.string da),.v (.int .u64 ve),.v (.slice none 0 0)]] []).al [false])=some qs∧∀ q∈qs,q:=
 ⟨[(Mm.checkI (Mm.Msg.mk ty cl ss sq bo kd er f1 f2 d1 d2 nm ot mo pl da ve (ents [])) != (0:Int))=false,(0:Int)≤ss∧ss<(18446744073709551616:Int),(0:Int)≤sq∧sq<(18446744073709551616:Int),(0:Int)≤bo∧bo<(18446744073709551616:Int),(ty==(3:Int))=true,(0:Int)≤IntKind.u64.wrap f1∧IntKind.u64.wrap f1<(18446744073709551616:Int),∀ (w:World) (u:Value) (k:Nat),Id'.foot (Th.wr ((hdW ty cl ss sq bo kd er).put (IntKind.u64.wrap f1) (↑6:Int))) w u k→Id'.own (Th.wr ((hdW ty cl ss sq bo kd er).put (IntKind.u64.wrap f1) (↑6:Int))) w u k,(0:Int)≤IntKind.u64.wrap f2∧IntKind.u64.wrap f2<(18446744073709551616:Int),∀ (w:World) (u:Value) (k:Nat),Id'.foot (Th.wr (((hdW ty cl ss sq bo kd er).put (IntKind.u64.wrap f1) (↑6:Int)).put (IntKind.u64.wrap f2) (↑31:Int))) w u k→Id'.own (Th.wr (((hdW ty cl ss sq bo kd er).put (IntKind.u64.wrap f1) (↑6:Int)).put (IntKind.u64.wrap f2) (↑31:Int))) w u k,(Th.own (((hdW ty cl ss sq bo kd er).put (IntKind.u64.wrap f1) (↑6:Int)).put (IntKind.u64.wrap f2) (↑31:Int)).out:Td)=Th.own (fiW (hdW ty cl ss sq bo kd er) f1 f2).out,Value.int IntKind.i64 (((hdW ty cl ss sq bo kd er).put (IntKind.u64.wrap f1) (↑6:Int)).put (IntKind.u64.wrap f2) (↑31:Int)).err=Value.int IntKind.i64 (fiW (hdW ty cl ss sq bo kd er) f1 f2).err],by kernel_rfl,(by repeat' first|exact mnil|refine yaa ?_ ?_| rfl|exact h0|exact h1|exact h2|exact h3|exact h4|trivial|(exact ya1 _)|(exact fun w u k h=>h))⟩
def ymv:Ctr Td:=fun us sub=>match us,sub with
 |[.agg [.v (.int .i64 ty),.v (.int .i64 cl),.v (.int .u64 ss),.v (.int .u64 sq),.v (.int .u64 bo),.v (.int .i64 kd),.v (.int .i64 er),.v (.int .i64 f1),.v (.int .i64 f2),.v (.int .i64 d1),.v (.int .i64 d2),.v (.string nm),.v (.string ot),.v (.int .i64 mo),.v (.int .i64 pl),.v (.string da),.v (.int .u64 ve),.v (.slice none 0 0)]],[]=>some ([(Mm.checkI (⟨ty,cl,ss,sq,bo,kd,er,f1,f2,d1,d2,nm,ot,mo,pl,da,ve,ents []⟩:Mm.Msg) != 0)=false,0≤ss∧ss<18446744073709551616,0≤sq∧sq<18446744073709551616,0≤bo∧bo<18446744073709551616,(ty==3)=true],.tup [.one (.obj 0),.one (.v (.int .i64 (fiW (hdW ty cl ss sq bo kd er) f1 f2).err))],[⟨.us (.own (fiW (hdW ty cl ss sq bo kd er) f1 f2).out),true⟩])
 |_,_=>none
theorem C_encR_ok:CtrOk Try.prog Id' 34 ymv:=by
 intro us sub ps x sm h hp w e vs hM ha
 unfold ymv at h
 split at h
 ·rename_i ty cl ss sq bo kd er f1 f2 d1 d2 nm ot mo pl da ve
  simp only [Option.some.injEq,Prod.mk.injEq] at h
  obtain ⟨rfl,rfl,rfl⟩:=h
  have h0:=hp _ (ma 0 rfl)
  have h1:=hp _ (ma 1 rfl)
  have h2:=hp _ (ma 2 rfl)
  have h3:=hp _ (ma 3 rfl)
  have h4:=hp _ (ma 4 rfl)
  exact ya6 (I:=Id') (fun (W0:World) (G:Nat→Prop)=>SyOk.mk2 Try.mixed yal (FnsR.cons (R_mck) (FnsR.cons (yjo (J:=dkI) (hx:=yag)) (FnsR.cons (yqw (J:=dkI) (hx:=yag)) (FnsR.cons (R_whN) (FnsR.cons (yop) (FnsR.nil)))))) EqsOk.nil) rfl Try.func34 (by kernel_rfl) (fun W0 G=>LpsOk.cons (by kernel_rfl) (ygo (id:=5) ((fun (W0:World) (G:Nat→Prop)=>SyOk.mk2 Try.mixed yal (FnsR.cons (R_mck) (FnsR.cons (yjo (J:=dkI) (hx:=yag)) (FnsR.cons (yqw (J:=dkI) (hx:=yag)) (FnsR.cons (R_whN) (FnsR.cons (yop) (FnsR.nil)))))) EqsOk.nil) W0 G) rfl (fun w e mem h=>bx_ok (W0:=W0) (G:=G) 0 w e mem h)) (LpsOk.nil _)) (cs:=[false]) (by kernel_rfl) (encR_w0 ty cl ss sq bo kd er f1 f2 d1 d2 nm ot mo pl da ve h0 h1 h2 h3 h4) w e vs hM ha
 ·cases h
theorem R_encR:RowOk Try.prog Id' yaj 34 (ctrF Id' ymv yaj):=ydi Try.call34 C_encR_ok
theorem encA_w0 (R:List Rw) (ty cl ss sq bo kd er f1 f2 d1 d2:Int) (nm ot:ByteArray) (mo pl:Int) (da:ByteArray) (ve:Int) (h0:(Mm.checkI (⟨ty,cl,ss,sq,bo,kd,er,f1,f2,d1,d2,nm,ot,mo,pl,da,ve,ents R⟩:Mm.Msg) != 0)=false) (h1:0≤ss∧ss<18446744073709551616) (h2:0≤sq∧sq<18446744073709551616) (h3:0≤bo∧bo<18446744073709551616) (h4:nm.size<65536) (h5:ot.size<65536) (h6:da.size<65536) (h7:0≤ve∧ve<18446744073709551616) (h8:R.length≤100) (h9:∀ r∈R,(r.ss.getD 0 ⟨#[]⟩).size<65536):∃ qs,wayO Id' ([⟨.us (.ext (.vw [true,false,false,false] R)),false⟩]:Mem Td).length [⟨.us (.ext (.vw [true,false,false,false] R)),false⟩,⟨.us (.own (bodW (hdW ty cl ss sq bo kd er) ty cl ss sq bo kd er f1 f2 d1 d2 nm ot mo pl da ve R).out),true⟩] (.tup [.one (.obj 1),.one (.v (.int .i64 (bodW (hdW ty cl ss sq bo kd er) ty cl ss sq bo kd er f1 f2 d1 d2 nm ot mo pl da ve R).err))]) ((ybu (⟨Try.prog,[(139,ctrV C_mck yaj),(F_new (hx:=yag):Nat×Fn2 Td),(yoj (hx:=yag):Nat×Fn2 Td),(140,ctrF Id' C_whO yaj),(141,ctrF Id' C_wb yaj)],[],dkHo,Id'.one,60⟩:Sy Td) [(100005,mapG (yg7 toBx 1) (⟨Try.prog,[(139,ctrV C_mck yaj),(F_new (hx:=yag):Nat×Fn2 Td),(yoj (hx:=yag):Nat×Fn2 Td),(140,ctrF Id' C_whO yaj),(141,ctrF Id' C_wb yaj)],[],dkHo,Id'.one,60⟩:Sy Td) 22 (regO 5 (yat Try.f34)) (drwR 5 (yat Try.f34)))] Try.f34 [.agg [.v (.int .i64 ty),.v (.int .i64 cl),.v (.int .u64 ss),.v (.int .u64 sq),.v (.int .u64 bo),.v (.int .i64 kd),.v (.int .i64 er),.v (.int .i64 f1),.v (.int .i64 f2),.v (.int .i64 d1),.v (.int .i64 d2),.v (.string nm),.v (.string ot),.v (.int .i64 mo),.v (.int .i64 pl),.v (.string da),.v (.int .u64 ve),.obj 0]] [⟨.us (.ext (.vw [true,false,false,false] R)),false⟩]).al [false])=some qs∧∀ q∈qs,q:=
 ⟨[(Mm.checkI (Mm.Msg.mk ty cl ss sq bo kd er f1 f2 d1 d2 nm ot mo pl da ve (ents R)) != 0)=false,0≤ss∧ss<18446744073709551616,0≤sq∧sq<18446744073709551616,0≤bo∧bo<18446744073709551616,(hdW ty cl ss sq bo kd er).n≤8000000,nm.size<65536,ot.size<65536,da.size<65536,0≤ve∧ve<18446744073709551616,R.length≤100,∀ r∈R,(r.ss.getD 0 ⟨#[]⟩).size<65536,(bodW (hdW ty cl ss sq bo kd er) ty cl ss sq bo kd er f1 f2 d1 d2 nm ot mo pl da ve R).n≤500000000,(Th.ext (Dk.vw [true,false,false,false] R):Td)=Th.ext (Dk.vw [true,false,false,false] R),(Th.own (bodW (hdW ty cl ss sq bo kd er) ty cl ss sq bo kd er f1 f2 d1 d2 nm ot mo pl da ve R).out:Td)=Th.own (bodW (hdW ty cl ss sq bo kd er) ty cl ss sq bo kd er f1 f2 d1 d2 nm ot mo pl da ve R).out,Value.int IntKind.i64 (bodW (hdW ty cl ss sq bo kd er) ty cl ss sq bo kd er f1 f2 d1 d2 nm ot mo pl da ve R).err=Value.int IntKind.i64 (bodW (hdW ty cl ss sq bo kd er) ty cl ss sq bo kd er f1 f2 d1 d2 nm ot mo pl da ve R).err],by kernel_rfl,(by repeat' first|exact mnil|refine yaa ?_ ?_| (with_reducible assumption)|(with_reducible rfl)|(exact ybf _)|(show 448≤8000000;decide)|(exact zbl (bodW_n (show (448:Nat)≤448 from zbm _) h8) (by decide))|(exact ya1 _))⟩
def C_encA:Ctr Td:=fun us sub=>match us,sub with
 |[.agg [.v (.int .i64 ty),.v (.int .i64 cl),.v (.int .u64 ss),.v (.int .u64 sq),.v (.int .u64 bo),.v (.int .i64 kd),.v (.int .i64 er),.v (.int .i64 f1),.v (.int .i64 f2),.v (.int .i64 d1),.v (.int .i64 d2),.v (.string nm),.v (.string ot),.v (.int .i64 mo),.v (.int .i64 pl),.v (.string da),.v (.int .u64 ve),.obj 0]],[⟨.us (.ext (.vw [true,false,false,false] R)),false⟩]=>some ([(Mm.checkI (⟨ty,cl,ss,sq,bo,kd,er,f1,f2,d1,d2,nm,ot,mo,pl,da,ve,ents R⟩:Mm.Msg) != 0)=false,0≤ss∧ss<18446744073709551616,0≤sq∧sq<18446744073709551616,0≤bo∧bo<18446744073709551616,nm.size<65536,ot.size<65536,da.size<65536,0≤ve∧ve<18446744073709551616,R.length≤100,∀ r∈R,(r.ss.getD 0 ⟨#[]⟩).size<65536],.tup [.one (.obj 1),.one (.v (.int .i64 (bodW (hdW ty cl ss sq bo kd er) ty cl ss sq bo kd er f1 f2 d1 d2 nm ot mo pl da ve R).err))],[⟨.us (.ext (.vw [true,false,false,false] R)),false⟩,⟨.us (.own (bodW (hdW ty cl ss sq bo kd er) ty cl ss sq bo kd er f1 f2 d1 d2 nm ot mo pl da ve R).out),true⟩])
 |_,_=>none
theorem C_encA_ok:CtrOk Try.prog Id' 34 C_encA:=by
 intro us sub ps x sm h hp w e vs hM ha
 unfold C_encA at h
 split at h
 ·rename_i ty cl ss sq bo kd er f1 f2 d1 d2 nm ot mo pl da ve R
  simp only [Option.some.injEq,Prod.mk.injEq] at h
  obtain ⟨rfl,rfl,rfl⟩:=h
  have h0:=hp _ (ma 0 rfl)
  have h1:=hp _ (ma 1 rfl)
  have h2:=hp _ (ma 2 rfl)
  have h3:=hp _ (ma 3 rfl)
  have h4:=hp _ (ma 4 rfl)
  have h5:=hp _ (ma 5 rfl)
  have h6:=hp _ (ma 6 rfl)
  have h7:=hp _ (ma 7 rfl)
  have h8:=hp _ (ma 8 rfl)
  have h9:=hp _ (ma 9 rfl)
  exact ya6 (I:=Id') (fun (W0:World) (G:Nat→Prop)=>SyOk.mk2 Try.mixed yal (FnsR.cons (R_mck) (FnsR.cons (yjo (J:=dkI) (hx:=yag)) (FnsR.cons (ymt (J:=dkI) (hx:=yag)) (FnsR.cons (R_whO) (FnsR.cons (R_wb) (FnsR.nil)))))) EqsOk.nil) rfl Try.func34 (by kernel_rfl) (fun W0 G=>LpsOk.cons (by kernel_rfl) (ygo (id:=5) ((fun (W0:World) (G:Nat→Prop)=>SyOk.mk2 Try.mixed yal (FnsR.cons (R_mck) (FnsR.cons (yjo (J:=dkI) (hx:=yag)) (FnsR.cons (ymt (J:=dkI) (hx:=yag)) (FnsR.cons (R_whO) (FnsR.cons (R_wb) (FnsR.nil)))))) EqsOk.nil) W0 G) rfl (fun w e mem h=>bx_ok (W0:=W0) (G:=G) 1 w e mem h)) (LpsOk.nil _)) (cs:=[false]) (by kernel_rfl) (encA_w0 R ty cl ss sq bo kd er f1 f2 d1 d2 nm ot mo pl da ve h0 h1 h2 h3 h4 h5 h6 h7 h8 h9) w e vs hM ha
 ·cases h
theorem encBO_w0 (R:List Rw) (ty cl ss sq bo kd er f1 f2 d1 d2:Int) (nm ot:ByteArray) (mo pl:Int) (da:ByteArray) (ve:Int) (h0:(Mm.checkI (⟨ty,cl,ss,sq,bo,kd,er,f1,f2,d1,d2,nm,ot,mo,pl,da,ve,ents R⟩:Mm.Msg) != 0)=true):∃ qs,wayO Id' ([⟨.us (.ext (.vw [true,false,false,false] R)),false⟩]:Mem Td).length [⟨.us (.ext (.vw [true,false,false,false] R)),false⟩] (.tup [.one (.v (.slice none 0 0)),.one (.v (.int .i64 (Mm.checkI (⟨ty,cl,ss,sq,bo,kd,er,f1,f2,d1,d2,nm,ot,mo,pl,da,ve,ents R⟩:Mm.Msg))))]) ((ybu (⟨Try.prog,[(139,ctrV C_mck yaj)],[],dkHo,Id'.one,60⟩:Sy Td) [] Try.f34 [.agg [.v (.int .i64 ty),.v (.int .i64 cl),.v (.int .u64 ss),.v (.int .u64 sq),.v (.int .u64 bo),.v (.int .i64 kd),.v (.int .i64 er),.v (.int .i64 f1),.v (.int .i64 f2),.v (.int .i64 d1),.v (.int .i64 d2),.v (.string nm),.v (.string ot),.v (.int .i64 mo),.v (.int .i64 pl),.v (.string da),.v (.int .u64 ve),.obj 0]] [⟨.us (.ext (.vw [true,false,false,false] R)),false⟩]).al [true])=some qs∧∀ q∈qs,q:=
 ⟨[(Mm.checkI (Mm.Msg.mk ty cl ss sq bo kd er f1 f2 d1 d2 nm ot mo pl da ve (ents R)) != (0:Int))=true,(Th.ext (Dk.vw [true,false,false,false] R):Td)=Th.ext (Dk.vw [true,false,false,false] R),Value.slice none 0 0=Value.slice none 0 0,Value.int IntKind.i64 (Mm.checkI (Mm.Msg.mk ty cl ss sq bo kd er f1 f2 d1 d2 nm ot mo pl da ve (ents R)))=Value.int IntKind.i64 (Mm.checkI (Mm.Msg.mk ty cl ss sq bo kd er f1 f2 d1 d2 nm ot mo pl da ve (ents R)))],by kernel_rfl,(by refine yaa ?_ (yaa ?_ (yaa ?_ (yaa ?_ mnil)))<;>first|(with_reducible assumption)|(with_reducible rfl)|rfl|exact h0|trivial)⟩
def C_encBO:Ctr Td:=fun us sub=>match us,sub with
 |[.agg [.v (.int .i64 ty),.v (.int .i64 cl),.v (.int .u64 ss),.v (.int .u64 sq),.v (.int .u64 bo),.v (.int .i64 kd),.v (.int .i64 er),.v (.int .i64 f1),.v (.int .i64 f2),.v (.int .i64 d1),.v (.int .i64 d2),.v (.string nm),.v (.string ot),.v (.int .i64 mo),.v (.int .i64 pl),.v (.string da),.v (.int .u64 ve),.obj 0]],[⟨.us (.ext (.vw [true,false,false,false] R)),false⟩]=>some ([(Mm.checkI (⟨ty,cl,ss,sq,bo,kd,er,f1,f2,d1,d2,nm,ot,mo,pl,da,ve,ents R⟩:Mm.Msg) != 0)=true],.tup [.one (.v (.slice none 0 0)),.one (.v (.int .i64 (Mm.checkI (⟨ty,cl,ss,sq,bo,kd,er,f1,f2,d1,d2,nm,ot,mo,pl,da,ve,ents R⟩:Mm.Msg))))],[⟨.us (.ext (.vw [true,false,false,false] R)),false⟩])
 |_,_=>none
theorem yw3:CtrOk Try.prog Id' 34 C_encBO:=by
 intro us sub ps x sm h hp w e vs hM ha
 unfold C_encBO at h
 split at h
 ·rename_i ty cl ss sq bo kd er f1 f2 d1 d2 nm ot mo pl da ve R
  simp only [Option.some.injEq,Prod.mk.injEq] at h
  obtain ⟨rfl,rfl,rfl⟩:=h
  have h0:=hp _ (ma 0 rfl)
  exact ya6 (I:=Id') (fun (W0:World) (G:Nat→Prop)=>SyOk.mk2 Try.mixed yal (FnsR.cons (R_mck) (FnsR.nil)) EqsOk.nil) rfl Try.func34 (by kernel_rfl) (fun W0 G=>LpsOk.nil _) (cs:=[true]) (by kernel_rfl) (encBO_w0 R ty cl ss sq bo kd er f1 f2 d1 d2 nm ot mo pl da ve h0) w e vs hM ha
 ·cases h
def RowsZ (R:List Rw):Prop:=∀ r∈R,(r.ss.getD 0 ⟨#[]⟩).size≤60000
theorem szs_of {R:List Rw} (h:RowsZ R):Mm.Szs (ents R):=fun i=>by
 show ((ents R).getD i Mm.Ent.zero).nm.size≤_
 rw [zaf]
 show (((R.map ym7)[i]?).getD _).nm.size≤_
 rw [List.getElem?_map]
 by_cases hi:i<R.length
 ·rw [zaa hi]
  exact zbl (h _ (List.getElem_mem hi)) (by decide)
 ·rw [List.getElem?_eq_none (by omega)]
  exact zbn _
theorem yue {q:MQ} (h:Mm.isR q.m=true):encE q=(yao (docB q),0):=by unfold encE;rw [h];rfl
theorem encE_no {q:MQ} (h:Mm.isR q.m=false):encE q=([],4):=by unfold encE;rw [h];rfl
theorem check_yes {q:MQ} (h:Mm.isR q.m=true):(Mm.checkI q.m != 0)=false:=by
 have:=Mm.check_is q.m
 rw [h] at this
 rw [bne,this];rfl
theorem check_no {q:MQ} (h:Mm.isR q.m=false):(Mm.checkI q.m != 0)=true∧Mm.checkI q.m=4:=by
 have:=Mm.check_is q.m
 rw [h] at this
 refine ⟨by rw [bne,this];rfl,?_⟩
 rcases Mm.checkI_04 q.m with h0|h0
 ·rw [h0] at this;cases this
 ·exact h0
theorem wb_out {s:WS} {b:List Bool} (h:Wb s b):s.out=yao b:=by
 unfold WS.out
 rw [if_pos h.1,h.2]
theorem ysa {s:ByteArray} (h:Mm.nameB s=true):s.size≤16:=by
 simp only [Mm.nameB,zbs,decide_eq_true_eq] at h
 have:=h.2.1.1.2
 omega
theorem ents_1000 {R:List Rw} (h:Mm.entsR (ents R)=true):∀ r∈R,(r.ss.getD 0 ⟨#[]⟩).size≤1000:=fun r hr=>by
 obtain ⟨k,hk,rfl⟩:=List.getElem_of_mem hr
 have:=(ynh h).2 k hk
 rw [show R.getD k Rw.zero=R[k] by rw [zaf,zaa hk];rfl] at this
 simp only [Mm.refEntB,zbs,decide_eq_true_eq] at this
 have:=ysa this.1.1.1.1.1.1
 omega
theorem just_sz {q:MQ} {s:ByteArray} (h:Just q s):q.nm.size≤16∧q.ot.size≤16∧q.da.size≤64∧(∀ r∈q.R,(r.ss.getD 0 ⟨#[]⟩).size≤1000)∧q.R.length≤24:=by
 refine ⟨?_,?_,?_,?_⟩
 ·cases hb:Mm.hasL s 110 with
  |true=>exact ysa (h.n hb)
  |false=>rw [h.n0 hb];exact zbn _
 ·cases hb:Mm.hasL s 111 with
  |true=>exact ysa (h.o hb)
  |false=>rw [h.o0 hb];exact zbn _
 ·cases hb:Mm.hasL s 116 with
  |true=>exact h.t hb
  |false=>rw [h.t0 hb];exact zbn _
 ·cases hb:Mm.hasL s 101 with
  |true=>exact ⟨ents_1000 (h.e hb),(ynh (h.e hb)).1⟩
  |false=>rw [h.e0 hb];exact ⟨(fun r hr=>by cases hr),zbn _⟩
def yvb (o:List UInt8) (eo:Int):Ctr Td:=fun us sub=>match us,sub with
 |[.agg [.v (.int .i64 ty),.v (.int .i64 cl),.v (.int .u64 ss),.v (.int .u64 sq),.v (.int .u64 bo),.v (.int .i64 kd),.v (.int .i64 er),.v (.int .i64 f1),.v (.int .i64 f2),.v (.int .i64 d1),.v (.int .i64 d2),.v (.string nm),.v (.string ot),.v (.int .i64 mo),.v (.int .i64 pl),.v (.string da),.v (.int .u64 ve),.obj 0]],[⟨.us (.ext (.vw [true,false,false,false] R)),false⟩]=>some ([encE (⟨ty,cl,ss,sq,bo,kd,er,f1,f2,d1,d2,nm,ot,mo,pl,da,ve,R⟩:MQ)=(o,eo),0≤ss∧ss<18446744073709551616,0≤sq∧sq<18446744073709551616,0≤bo∧bo<18446744073709551616,nm.size≤60000,ot.size≤60000,da.size≤60000,0≤ve∧ve<18446744073709551616,RowsZ R],.tup [.one (.obj 1),.one (.v (.int .i64 eo))],[⟨.us (.ext (.vw [true,false,false,false] R)),false⟩,⟨.us (.own o),true⟩])
 |_,_=>none
theorem ytw {W0:World} {G:Nat→Prop} {w:World} {e:Env} {mem:Mem Td} (h:MemOk W0 G Id' w e mem):MemOk W0 G Id' w (e++[nilV]) (mem++[⟨.us (.own []),true⟩]):=
 h.push (Ext.refl w) nilV ⟨.us (.own []),true⟩ (nil_own dkI w).1 fun k hk=>absurd hk ((nil_own dkI w).2 k)
theorem get_snoc {α:Type} (e:List α) (v:α):(e++[v])[e.length]? =some v:=by
 rw [List.getElem?_append_right (zbm _),Nat.sub_self];rfl
theorem tup_nil {e:Env} {x v:Value} {n:Nat} (hn:e.length=n) (h:(SV.tup [.one (.v (.slice none 0 0)),.one (.v x)]).is e v):(SV.tup [.one (.obj n),.one (.v x)]).is (e++[nilV]) v:=by
 obtain ⟨us,h1,h2⟩:=h
 match us,h1 with
 |[a,b],⟨g1,g2,_⟩=>exact ⟨[a,b],⟨by show (e++[nilV])[n]? =some a;rw [← hn,get_snoc];exact congrArg some (show nilV=a from (show a=nilV from g1).symm),g2,trivial⟩,h2⟩
theorem C_encX_ok (o:List UInt8) (eo:Int):CtrOk Try.prog Id' 34 (yvb o eo):=by
 intro us sub ps x sm h hp w e vs hM ha
 unfold yvb at h
 split at h
 ·rename_i ty cl ss sq bo kd er f1 f2 d1 d2 nm ot mo pl da ve R
  simp only [Option.some.injEq,Prod.mk.injEq] at h
  obtain ⟨rfl,rfl,rfl⟩:=h
  have q0:=hp _ (ma 0 rfl)
  have q1:=hp _ (ma 1 rfl)
  have q2:=hp _ (ma 2 rfl)
  have q3:=hp _ (ma 3 rfl)
  have q4:=hp _ (ma 4 rfl)
  have q5:=hp _ (ma 5 rfl)
  have q6:=hp _ (ma 6 rfl)
  have q7:=hp _ (ma 7 rfl)
  have q8:=hp _ (ma 8 rfl)
  have hm:Mm.isR (⟨ty,cl,ss,sq,bo,kd,er,f1,f2,d1,d2,nm,ot,mo,pl,da,ve,ents R⟩:Mm.Msg)=Mm.isR (⟨ty,cl,ss,sq,bo,kd,er,f1,f2,d1,d2,nm,ot,mo,pl,da,ve,R⟩:MQ).m:=rfl
  cases hI:Mm.isR (⟨ty,cl,ss,sq,bo,kd,er,f1,f2,d1,d2,nm,ot,mo,pl,da,ve,R⟩:MQ).m with
  |false=>
   rw [encE_no hI] at q0
   simp only [Prod.mk.injEq] at q0
   obtain ⟨rfl,rfl⟩:=q0
   obtain ⟨c1,c2⟩:=check_no hI
   have c2':Mm.checkI (⟨ty,cl,ss,sq,bo,kd,er,f1,f2,d1,d2,nm,ot,mo,pl,da,ve,ents R⟩:Mm.Msg)=4:=c2
   refine (yw3 _ _ _ _ _ rfl (yaa c1 mnil) w e vs hM ha).mono fun y w' ⟨v,e',h1,h2,h3,h4⟩=>⟨v,e'++[nilV],h1,h2.trans (Grows.push e' nilV),?_,ytw h4⟩
   rw [c2'] at h3
   exact tup_nil h4.len h3
  |true=>
   rw [yue hI] at q0
   simp only [Prod.mk.injEq] at q0
   obtain ⟨rfl,rfl⟩:=q0
   obtain ⟨hh,hj⟩:=ypu hI
   have c1:=check_yes hI
   have hb:=bodW_b hh hj
   have ho:=wb_out hb
   have he:=hb.1
   obtain ⟨z1,z2,z3,z4,z5⟩:=just_sz hj
   have z5:R.length≤24:=z5
   have:=C_encA_ok _ _ _ _ _ rfl (yaa c1 (yaa q1 (yaa q2 (yaa q3 (yaa (zbi q4 (by decide)) (yaa (zbi q5 (by decide)) (yaa (zbi q6 (by decide)) (yaa q7 (yaa (by omega) (yaa (fun r hr=>zbi (q8 r hr) (by decide)) mnil)))))))))) w e vs hM ha
   rw [show (bodW (hdW ty cl ss sq bo kd er) ty cl ss sq bo kd er f1 f2 d1 d2 nm ot mo pl da ve R).err=0 from he,show (bodW (hdW ty cl ss sq bo kd er) ty cl ss sq bo kd er f1 f2 d1 d2 nm ot mo pl da ve R).out=_ from ho] at this
   exact this
 ·cases h
theorem R_encX (o:List UInt8) (eo:Int):RowOk Try.prog Id' yaj 34 (ctrF Id' (yvb o eo) yaj):=ydi Try.call34 (C_encX_ok o eo)
theorem re_bad_w0 (R:List Rw) (ty cl ss sq bo kd er f1 f2 d1 d2:Int) (nm ot:ByteArray) (mo pl:Int) (da:ByteArray) (ve:Int) (h0:nm.size≤9223372036854775807) (h1:ot.size≤9223372036854775807) (h2:Mm.Szs (ents R)) (h3:(!Mm.isR (⟨ty,cl,ss,sq,bo,kd,er,f1,f2,d1,d2,nm,ot,mo,pl,da,ve,ents R⟩:Mm.Msg))=true):∃ qs,wayO Id' ([⟨.us (.ext (.vw [true,false,false,false] R)),false⟩]:Mem Td).length [⟨.us (.ext (.vw [true,false,false,false] R)),false⟩] (.tup [.one (.v (.slice none 0 0)),.one (.v (.int .i64 4))]) ((ybu (⟨Try.prog,[(142,ctrV C_mis yaj)],[],dkHo,Id'.one,60⟩:Sy Td) [] Try.f35 [.agg [.v (.int .i64 ty),.v (.int .i64 cl),.v (.int .u64 ss),.v (.int .u64 sq),.v (.int .u64 bo),.v (.int .i64 kd),.v (.int .i64 er),.v (.int .i64 f1),.v (.int .i64 f2),.v (.int .i64 d1),.v (.int .i64 d2),.v (.string nm),.v (.string ot),.v (.int .i64 mo),.v (.int .i64 pl),.v (.string da),.v (.int .u64 ve),.obj 0]] [⟨.us (.ext (.vw [true,false,false,false] R)),false⟩]).al [true])=some qs∧∀ q∈qs,q:=
 ⟨[nm.size≤(9223372036854775807:Nat),ot.size≤(9223372036854775807:Nat),Mm.Szs (ents R),(!Mm.isR (Mm.Msg.mk ty cl ss sq bo kd er f1 f2 d1 d2 nm ot mo pl da ve (ents R)))=true,(Th.ext (Dk.vw [true,false,false,false] R):Td)=Th.ext (Dk.vw [true,false,false,false] R),Value.slice none 0 0=Value.slice none 0 0,Value.int IntKind.i64 (Int.ofNat 4)=Value.int IntKind.i64 (Int.ofNat 4)],by kernel_rfl,(by repeat' first|exact mnil|refine yaa ?_ ?_| (with_reducible assumption)|(with_reducible rfl)|rfl|exact h0|exact h1|exact h2|exact h3|trivial)⟩
def yol (o:List UInt8) (eo:Int):Ctr Td:=fun us sub=>match us,sub with
 |[.agg [.v (.int .i64 ty),.v (.int .i64 cl),.v (.int .u64 ss),.v (.int .u64 sq),.v (.int .u64 bo),.v (.int .i64 kd),.v (.int .i64 er),.v (.int .i64 f1),.v (.int .i64 f2),.v (.int .i64 d1),.v (.int .i64 d2),.v (.string nm),.v (.string ot),.v (.int .i64 mo),.v (.int .i64 pl),.v (.string da),.v (.int .u64 ve),.obj 0]],[⟨.us (.ext (.vw [true,false,false,false] R)),false⟩]=>some ([encE (⟨ty,cl,ss,sq,bo,kd,er,f1,f2,d1,d2,nm,ot,mo,pl,da,ve,R⟩:MQ)=(o,eo),0≤ss∧ss<18446744073709551616,0≤sq∧sq<18446744073709551616,0≤bo∧bo<18446744073709551616,nm.size≤60000,ot.size≤60000,da.size≤60000,0≤ve∧ve<18446744073709551616,RowsZ R],.tup [.one (.obj 1),.one (.v (.int .i64 eo))],[⟨.us (.ext (.vw [true,false,false,false] R)),false⟩,⟨.us (.own o),true⟩])
 |_,_=>none
theorem yw2 (o:List UInt8) (eo:Int):CtrOk Try.prog Id' 35 (yol o eo):=by
 intro us sub ps x sm h hp w e vs hM ha
 unfold yol at h
 split at h
 ·rename_i ty cl ss sq bo kd er f1 f2 d1 d2 nm ot mo pl da ve R
  simp only [Option.some.injEq,Prod.mk.injEq] at h
  obtain ⟨rfl,rfl,rfl⟩:=h
  have q0:=hp _ (ma 0 rfl)
  have q1:=hp _ (ma 1 rfl)
  have q2:=hp _ (ma 2 rfl)
  have q3:=hp _ (ma 3 rfl)
  have q4:=hp _ (ma 4 rfl)
  have q5:=hp _ (ma 5 rfl)
  have q6:=hp _ (ma 6 rfl)
  have q7:=hp _ (ma 7 rfl)
  have q8:=hp _ (ma 8 rfl)
  have n0:nm.size≤9223372036854775807:=zbl q4 (by decide)
  have n1:ot.size≤9223372036854775807:=zbl q5 (by decide)
  have n2:=szs_of q8
  cases hI:Mm.isR (⟨ty,cl,ss,sq,bo,kd,er,f1,f2,d1,d2,nm,ot,mo,pl,da,ve,R⟩:MQ).m with
  |false=>
   rw [encE_no hI] at q0
   simp only [Prod.mk.injEq] at q0
   obtain ⟨rfl,rfl⟩:=q0
   have g3:(!Mm.isR (⟨ty,cl,ss,sq,bo,kd,er,f1,f2,d1,d2,nm,ot,mo,pl,da,ve,ents R⟩:Mm.Msg))=true:=by rw [show Mm.isR (⟨ty,cl,ss,sq,bo,kd,er,f1,f2,d1,d2,nm,ot,mo,pl,da,ve,ents R⟩:Mm.Msg)=false from hI];rfl
   refine (ya6 (I:=Id') (fun (W0:World) (G:Nat→Prop)=>SyOk.mk2 Try.mixed yal (FnsR.cons (R_mis) (FnsR.nil)) EqsOk.nil) rfl Try.func35 (by kernel_rfl) (fun W0 G=>LpsOk.nil _) (cs:=[true]) (by kernel_rfl) (re_bad_w0 R ty cl ss sq bo kd er f1 f2 d1 d2 nm ot mo pl da ve n0 n1 n2 g3) w e vs hM ha).mono fun y w' ⟨v,e',h1,h2,h3,h4⟩=>⟨v,e'++[nilV],h1,h2.trans (Grows.push e' nilV),?_,ytw h4⟩
   exact tup_nil h4.len h3
  |true=>
   rw [yue hI] at q0
   simp only [Prod.mk.injEq] at q0
   obtain ⟨rfl,rfl⟩:=q0
   have g3:(!Mm.isR (⟨ty,cl,ss,sq,bo,kd,er,f1,f2,d1,d2,nm,ot,mo,pl,da,ve,ents R⟩:Mm.Msg))=false:=by rw [show Mm.isR (⟨ty,cl,ss,sq,bo,kd,er,f1,f2,d1,d2,nm,ot,mo,pl,da,ve,ents R⟩:Mm.Msg)=true from hI];rfl
   obtain ⟨hh,hj⟩:=ypu hI
   have hk:ty=3∨er≠0∨(1≤kd∧kd≤14):=by
    have a1:ty=3∨1≤kd:=hh.so
    have a2:0≤kd∧kd≤14:=hh.kd
    omega
   have hf:(fl17 ty kd er).size≤9223372036854775807:=by
    unfold fl17
    cases ty==3 with
    |true=>exact (by decide:(⟨#[102]⟩:ByteArray).size≤9223372036854775807)
    |false=>
     cases er != 0 with
     |true=>exact (by decide:(⟨#[]⟩:ByteArray).size≤9223372036854775807)
     |false=>exact Mm.fieldsS_size _ _
   obtain ⟨z1,z2,z3,z4,z5⟩:=just_sz hj
   exact ya6 (I:=Id') (fun (W0:World) (G:Nat→Prop)=>SyOk.mk2 Try.mixed yal (FnsR.cons (R_mis) (FnsR.cons (yfp) (FnsR.cons (yfo) (FnsR.cons (ybs (J:=dkI) (hx:=yag)) (FnsR.cons (ybn (J:=dkI) (hx:=yag)) (FnsR.cons (ybo (J:=dkI) (hx:=yag)) (FnsR.cons (R_rfi) (FnsR.nil)))))))) EqsOk.nil) rfl Try.func35 (by kernel_rfl) (fun W0 G=>reL_ok R ty cl ss sq bo kd er f1 f2 d1 d2 nm ot mo pl da ve z1 z2 z3 z4 z5 W0 G) (cs:=[false]) (by kernel_rfl) (re_w0 R ty cl ss sq bo kd er f1 f2 d1 d2 nm ot mo pl da ve n0 n1 n2 g3 q1 q2 q3 hk hf z1 z2 z3 q7 z4 z5) w e vs hM ha
 ·cases h
theorem R_rencX (o:List UInt8) (eo:Int):RowOk Try.prog Id' yaj 35 (ctrF Id' (yol o eo) yaj):=ydi Try.call35 (yw2 o eo)
def hTy (s:RS):Int:=IntKind.i64.wrap (s.num 2:Int)
def hCl (s:RS):Int:=IntKind.i64.wrap ((s.get 2).num 3:Int)
def hSs (s:RS):Int:=(((s.get 2).get 3).num 40:Int)
def hSq (s:RS):Int:=((((s.get 2).get 3).get 40).num 40:Int)
def hBo (s:RS):Int:=(((((s.get 2).get 3).get 40).get 40).num 40:Int)
def hKd (s:RS):Int:=IntKind.i64.wrap ((((((s.get 2).get 3).get 40).get 40).get 40).num 4:Int)
def hEr (s:RS):Int:=IntKind.i64.wrap (((((((s.get 2).get 3).get 40).get 40).get 40).get 4).num 5:Int)
def hdR (s:RS):RS:=((((((s.get 2).get 3).get 40).get 40).get 40).get 4).get 5
theorem rhN_w0 (s:RS) (ty cl ss sq bo kd er f1 f2 d1 d2:Int) (nm ot:ByteArray) (mo pl:Int) (da:ByteArray) (ve:Int) :∃ qs,wayO Id' ([⟨.us (.rd s),true⟩,⟨.bx [.v (.int .i64 ty),.v (.int .i64 cl),.v (.int .u64 ss),.v (.int .u64 sq),.v (.int .u64 bo),.v (.int .i64 kd),.v (.int .i64 er),.v (.int .i64 f1),.v (.int .i64 f2),.v (.int .i64 d1),.v (.int .i64 d2),.v (.string nm),.v (.string ot),.v (.int .i64 mo),.v (.int .i64 pl),.v (.string da),.v (.int .u64 ve),.v (.slice none 0 0)],true⟩]:Mem Td).length [⟨.us (.rd (hdR s)),true⟩,⟨.bx [.v (.int .i64 (hTy s)),.v (.int .i64 (hCl s)),.v (.int .u64 (hSs s)),.v (.int .u64 (hSq s)),.v (.int .u64 (hBo s)),.v (.int .i64 (hKd s)),.v (.int .i64 (hEr s)),.v (.int .i64 f1),.v (.int .i64 f2),.v (.int .i64 d1),.v (.int .i64 d2),.v (.string nm),.v (.string ot),.v (.int .i64 mo),.v (.int .i64 pl),.v (.string da),.v (.int .u64 ve),.v (.slice none 0 0)],true⟩] (.tup []) ((ybu (⟨Try.prog,[(rInt Try.prog Try.f213),(rNum Try.prog Try.f214)],[],dkHo,Id'.one,60⟩:Sy Td) [(100008,mapG (yg7 toBx 9) (⟨Try.prog,[(rInt Try.prog Try.f213),(rNum Try.prog Try.f214)],[],dkHo,Id'.one,60⟩:Sy Td) 45 (regO 8 (yat Try.f140)) (drwR 8 (yat Try.f140)))] Try.f140 [.agg [.v (.pointer none),.obj 0],.one (.ptr 1 0)] [⟨.us (.rd s),true⟩,⟨.bx [.v (.int .i64 ty),.v (.int .i64 cl),.v (.int .u64 ss),.v (.int .u64 sq),.v (.int .u64 bo),.v (.int .i64 kd),.v (.int .i64 er),.v (.int .i64 f1),.v (.int .i64 f2),.v (.int .i64 d1),.v (.int .i64 d2),.v (.string nm),.v (.string ot),.v (.int .i64 mo),.v (.int .i64 pl),.v (.string da),.v (.int .u64 ve),.v (.slice none 0 0)],true⟩]).al [])=some qs∧∀ q∈qs,q:=
 ⟨[∀ (w:World) (u:Value) (k:Nat),Id'.foot (Th.rd (s.get (2:Int))) w u k→Id'.own (Th.rd (s.get (2:Int))) w u k,∀ (w:World) (u:Value) (k:Nat),Id'.foot (Th.rd ((s.get (2:Int)).get (3:Int))) w u k→Id'.own (Th.rd ((s.get (2:Int)).get (3:Int))) w u k,∀ (w:World) (u:Value) (k:Nat),Id'.foot (Th.rd (((s.get (2:Int)).get (3:Int)).get (40:Int))) w u k→Id'.own (Th.rd (((s.get (2:Int)).get (3:Int)).get (40:Int))) w u k,∀ (w:World) (u:Value) (k:Nat),Id'.foot (Th.rd ((((s.get (2:Int)).get (3:Int)).get (40:Int)).get (40:Int))) w u k→Id'.own (Th.rd ((((s.get (2:Int)).get (3:Int)).get (40:Int)).get (40:Int))) w u k,∀ (w:World) (u:Value) (k:Nat),Id'.foot (Th.rd (((((s.get (2:Int)).get (3:Int)).get (40:Int)).get (40:Int)).get (40:Int))) w u k→Id'.own (Th.rd (((((s.get (2:Int)).get (3:Int)).get (40:Int)).get (40:Int)).get (40:Int))) w u k,∀ (w:World) (u:Value) (k:Nat),Id'.foot (Th.rd ((((((s.get (2:Int)).get (3:Int)).get (40:Int)).get (40:Int)).get (40:Int)).get (4:Int))) w u k→Id'.own (Th.rd ((((((s.get (2:Int)).get (3:Int)).get (40:Int)).get (40:Int)).get (40:Int)).get (4:Int))) w u k,∀ (w:World) (u:Value) (k:Nat),Id'.foot (Th.rd (((((((s.get (2:Int)).get (3:Int)).get (40:Int)).get (40:Int)).get (40:Int)).get (4:Int)).get (5:Int))) w u k→Id'.own (Th.rd (((((((s.get (2:Int)).get (3:Int)).get (40:Int)).get (40:Int)).get (40:Int)).get (4:Int)).get (5:Int))) w u k,(Th.rd (hdR s):Td)=Th.rd (hdR s),Value.int IntKind.i64 (IntKind.i64.wrap (↑(s.num (2:Int)):Int))=Value.int IntKind.i64 (hTy s),Value.int IntKind.i64 (IntKind.i64.wrap (↑((s.get (2:Int)).num (3:Int)):Int))=Value.int IntKind.i64 (hCl s),Value.int IntKind.u64 (↑(((s.get (2:Int)).get (3:Int)).num (40:Int)):Int)=Value.int IntKind.u64 (hSs s),Value.int IntKind.u64 (↑((((s.get (2:Int)).get (3:Int)).get (40:Int)).num (40:Int)):Int)=Value.int IntKind.u64 (hSq s),Value.int IntKind.u64 (↑(((((s.get (2:Int)).get (3:Int)).get (40:Int)).get (40:Int)).num (40:Int)):Int)=Value.int IntKind.u64 (hBo s),Value.int IntKind.i64 (IntKind.i64.wrap (↑((((((s.get (2:Int)).get (3:Int)).get (40:Int)).get (40:Int)).get (40:Int)).num (4:Int)):Int))=Value.int IntKind.i64 (hKd s),Value.int IntKind.i64 (IntKind.i64.wrap (↑(((((((s.get (2:Int)).get (3:Int)).get (40:Int)).get (40:Int)).get (40:Int)).get (4:Int)).num (5:Int)):Int))=Value.int IntKind.i64 (hEr s),Value.int IntKind.i64 f1=Value.int IntKind.i64 f1,Value.int IntKind.i64 f2=Value.int IntKind.i64 f2,Value.int IntKind.i64 d1=Value.int IntKind.i64 d1,Value.int IntKind.i64 d2=Value.int IntKind.i64 d2,Value.string nm=Value.string nm,Value.string ot=Value.string ot,Value.int IntKind.i64 mo=Value.int IntKind.i64 mo,Value.int IntKind.i64 pl=Value.int IntKind.i64 pl,Value.string da=Value.string da,Value.int IntKind.u64 ve=Value.int IntKind.u64 ve,Value.slice none 0 0=Value.slice none 0 0],by kernel_rfl,(by repeat' first|exact mnil|refine yaa ?_ ?_| rfl|trivial|(exact ya1 _)|(exact fun w u k h=>h))⟩
def C_rhN:Ctr Td:=fun us sub=>match us,sub with
 |[.agg [.v (.pointer none),.obj 0],.one (.ptr 1 0)],[⟨.us (.rd s),true⟩,⟨.bx [.v (.int .i64 ty),.v (.int .i64 cl),.v (.int .u64 ss),.v (.int .u64 sq),.v (.int .u64 bo),.v (.int .i64 kd),.v (.int .i64 er),.v (.int .i64 f1),.v (.int .i64 f2),.v (.int .i64 d1),.v (.int .i64 d2),.v (.string nm),.v (.string ot),.v (.int .i64 mo),.v (.int .i64 pl),.v (.string da),.v (.int .u64 ve),.v (.slice none 0 0)],true⟩]=>some ([],.tup [],[⟨.us (.rd (hdR s)),true⟩,⟨.bx [.v (.int .i64 (hTy s)),.v (.int .i64 (hCl s)),.v (.int .u64 (hSs s)),.v (.int .u64 (hSq s)),.v (.int .u64 (hBo s)),.v (.int .i64 (hKd s)),.v (.int .i64 (hEr s)),.v (.int .i64 f1),.v (.int .i64 f2),.v (.int .i64 d1),.v (.int .i64 d2),.v (.string nm),.v (.string ot),.v (.int .i64 mo),.v (.int .i64 pl),.v (.string da),.v (.int .u64 ve),.v (.slice none 0 0)],true⟩])
 |_,_=>none
theorem C_rhN_ok:CtrOk Try.prog Id' 140 C_rhN:=by
 intro us sub ps x sm h hp w e vs hM ha
 unfold C_rhN at h
 split at h
 ·rename_i s ty cl ss sq bo kd er f1 f2 d1 d2 nm ot mo pl da ve
  simp only [Option.some.injEq,Prod.mk.injEq] at h
  obtain ⟨rfl,rfl,rfl⟩:=h
  exact ya6 (I:=Id') (fun (W0:World) (G:Nat→Prop)=>SyOk.mk2 Try.mixed yal (FnsR.cons (yrv) (FnsR.cons (rNum_ok) (FnsR.nil))) EqsOk.nil) rfl Try.func140 (by kernel_rfl) (fun W0 G=>LpsOk.cons (by kernel_rfl) (ygo (id:=8) ((fun (W0:World) (G:Nat→Prop)=>SyOk.mk2 Try.mixed yal (FnsR.cons (yrv) (FnsR.cons (rNum_ok) (FnsR.nil))) EqsOk.nil) W0 G) rfl (fun w e mem h=>bx_ok (W0:=W0) (G:=G) 9 w e mem h)) (LpsOk.nil _)) (cs:=[]) (by kernel_rfl) (rhN_w0 s ty cl ss sq bo kd er f1 f2 d1 d2 nm ot mo pl da ve ) w e vs hM ha
 ·cases h
theorem R_rhN:RowOk Try.prog Id' yaj 140 (ctrF Id' C_rhN yaj):=ydi Try.call140 C_rhN_ok
end Go.Proofs.Ytiiekgcjilelpaa
