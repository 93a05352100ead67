/- J4. -/
import Derived.Test.YtiiekgcjilelpaaJ3p
import Derived.Test.YtiiekgcjilelpaaJ2p
set_option maxRecDepth 100000
set_option linter.unusedSimpArgs false
set_option linter.unusedVariables false
namespace Go.Proofs.Ytiiekgcjilelpaa
open Go.RowKit
def wBodyR (P:Program) (f_wBodyR f_wFile f_wInt:Func):Nat×Fn2 Td:=(141,ctrF Id' (specG (⟨P,[wFile P f_wFile f_wInt],[],dkHo,Id'.one,60⟩:Sy Td) [] f_wBodyR [true]) hardD)
theorem wBodyR_ok:RowOk Try.prog Id' hardD (wBodyR Try.prog Try.f141 Try.f215 Try.f213).1 (wBodyR Try.prog Try.f141 Try.f215 Try.f213).2:=rowG_ok2 (fun (W0:World) (G:Nat→Prop)=>SyOk.mk2 Try.mixed dkHo_ok (FnsR.cons (wFile_ok) (FnsR.nil)) EqsOk.nil) rfl Try.func141 (by kernel_rfl) (fun _ _=>LpsOk.nil _) [true] Try.call141
theorem encR_w0 (ty cl ss sq bo kd er f1 f2 d1 d2:Int) (nm ot:ByteArray) (mo pl:Int) (da:ByteArray) (ve:Int) (h0:(Mm.checkI (⟨ty,cl,ss,sq,bo,kd,er,f1,f2,d1,d2,nm,ot,mo,pl,da,ve,ents []⟩:Mm.Msg) != 0)=false) (h1:0≤ss∧ss<18446744073709551616) (h2:0≤sq∧sq<18446744073709551616) (h3:0≤bo∧bo<18446744073709551616) (h4:(ty==3)=true):∃ qs,wayO Id' ([]:Mem Td).length [⟨.us (.own (fiW (hdW ty cl ss sq bo kd er) f1 f2).out),true⟩] (.tup [.one (.obj 0),.one (.v (.int .i64 (fiW (hdW ty cl ss sq bo kd er) f1 f2).err))]) ((runFn (⟨Try.prog,[(139,ctrV C_mck hardD),(F_new (hx:=hardDk):Nat×Fn2 Td),(F_done (hx:=hardDk):Nat×Fn2 Td),(140,ctrF Id' C_whN hardD),(wBodyR Try.prog Try.f141 Try.f215 Try.f213)],[],dkHo,Id'.one,60⟩:Sy Td) [(100005,mapG (modAt toBx 0) (⟨Try.prog,[(139,ctrV C_mck hardD),(F_new (hx:=hardDk):Nat×Fn2 Td),(F_done (hx:=hardDk):Nat×Fn2 Td),(140,ctrF Id' C_whN hardD),(wBodyR Try.prog Try.f141 Try.f215 Try.f213)],[],dkHo,Id'.one,60⟩:Sy Td) 22 (regO 5 (bodyOf Try.f34)) (drwR 5 (bodyOf Try.f34)))] Try.f34 [.agg [.v (.int .i64 ty),.v (.int .i64 cl),.v (.int .u64 ss),.v (.int .u64 sq),.v (.int .u64 bo),.v (.int .i64 kd),.v (.int .i64 er),.v (.int .i64 f1),.v (.int .i64 f2),.v (.int .i64 d1),.v (.int .i64 d2),.v (.string nm),.v (.string ot),.v (.int .i64 mo),.v (.int .i64 pl),.v (.string da),.v (.int .u64 ve),.v (.slice none 0 0)]] []).al [false])=some qs∧∀ q∈qs,q:=
 ⟨[(Mm.checkI (Mm.Msg.mk ty cl ss sq bo kd er f1 f2 d1 d2 nm ot mo pl da ve (ents [])) != (0:Int))=false,(0:Int)≤ss∧ss<(18446744073709551616:Int),(0:Int)≤sq∧sq<(18446744073709551616:Int),(0:Int)≤bo∧bo<(18446744073709551616:Int),(ty==(3:Int))=true,(0:Int)≤IntKind.u64.wrap f1∧IntKind.u64.wrap f1<(18446744073709551616:Int),∀ (w:World) (u:Value) (k:Nat),Id'.foot (Th.wr ((hdW ty cl ss sq bo kd er).put (IntKind.u64.wrap f1) (↑6:Int))) w u k→Id'.own (Th.wr ((hdW ty cl ss sq bo kd er).put (IntKind.u64.wrap f1) (↑6:Int))) w u k,(0:Int)≤IntKind.u64.wrap f2∧IntKind.u64.wrap f2<(18446744073709551616:Int),∀ (w:World) (u:Value) (k:Nat),Id'.foot (Th.wr (((hdW ty cl ss sq bo kd er).put (IntKind.u64.wrap f1) (↑6:Int)).put (IntKind.u64.wrap f2) (↑31:Int))) w u k→Id'.own (Th.wr (((hdW ty cl ss sq bo kd er).put (IntKind.u64.wrap f1) (↑6:Int)).put (IntKind.u64.wrap f2) (↑31:Int))) w u k,(Th.own (((hdW ty cl ss sq bo kd er).put (IntKind.u64.wrap f1) (↑6:Int)).put (IntKind.u64.wrap f2) (↑31:Int)).out:Td)=Th.own (fiW (hdW ty cl ss sq bo kd er) f1 f2).out,Value.int IntKind.i64 (((hdW ty cl ss sq bo kd er).put (IntKind.u64.wrap f1) (↑6:Int)).put (IntKind.u64.wrap f2) (↑31:Int)).err=Value.int IntKind.i64 (fiW (hdW ty cl ss sq bo kd er) f1 f2).err],by kernel_rfl,(by refine mcons ?_ (mcons ?_ (mcons ?_ (mcons ?_ (mcons ?_ (mcons ?_ (mcons ?_ (mcons ?_ (mcons ?_ (mcons ?_ (mcons ?_ mnil))))))))))<;>first|rfl|exact h0|exact h1|exact h2|exact h3|exact h4|trivial|(exact u64_in _)|(exact fun w u k h=>h))⟩
def C_encR:Ctr Td:=fun us sub=>match us,sub with
 |[.agg [.v (.int .i64 ty),.v (.int .i64 cl),.v (.int .u64 ss),.v (.int .u64 sq),.v (.int .u64 bo),.v (.int .i64 kd),.v (.int .i64 er),.v (.int .i64 f1),.v (.int .i64 f2),.v (.int .i64 d1),.v (.int .i64 d2),.v (.string nm),.v (.string ot),.v (.int .i64 mo),.v (.int .i64 pl),.v (.string da),.v (.int .u64 ve),.v (.slice none 0 0)]],[]=>some ([(Mm.checkI (⟨ty,cl,ss,sq,bo,kd,er,f1,f2,d1,d2,nm,ot,mo,pl,da,ve,ents []⟩:Mm.Msg) != 0)=false,0≤ss∧ss<18446744073709551616,0≤sq∧sq<18446744073709551616,0≤bo∧bo<18446744073709551616,(ty==3)=true],.tup [.one (.obj 0),.one (.v (.int .i64 (fiW (hdW ty cl ss sq bo kd er) f1 f2).err))],[⟨.us (.own (fiW (hdW ty cl ss sq bo kd er) f1 f2).out),true⟩])
 |_,_=>none
theorem C_encR_ok:CtrOk Try.prog Id' 34 C_encR:=by
 intro us sub ps x sm h hp w e vs hM ha
 unfold C_encR at h
 split at h
 ·rename_i ty cl ss sq bo kd er f1 f2 d1 d2 nm ot mo pl da ve
  simp only [Option.some.injEq,Prod.mk.injEq] at h
  obtain ⟨rfl,rfl,rfl⟩:=h
  have h0:=hp _ ((List.mem_cons_self ..))
  have h1:=hp _ (List.mem_cons_of_mem _ ((List.mem_cons_self ..)))
  have h2:=hp _ (List.mem_cons_of_mem _ (List.mem_cons_of_mem _ ((List.mem_cons_self ..))))
  have h3:=hp _ (List.mem_cons_of_mem _ (List.mem_cons_of_mem _ (List.mem_cons_of_mem _ ((List.mem_cons_self ..)))))
  have h4:=hp _ (List.mem_cons_of_mem _ (List.mem_cons_of_mem _ (List.mem_cons_of_mem _ (List.mem_cons_of_mem _ ((List.mem_cons_self ..))))))
  exact ctr_way (I:=Id') (fun (W0:World) (G:Nat→Prop)=>SyOk.mk2 Try.mixed dkHo_ok (FnsR.cons (R_mck) (FnsR.cons (F_new_ok (J:=dkI) (hx:=hardDk)) (FnsR.cons (F_done_ok (J:=dkI) (hx:=hardDk)) (FnsR.cons (R_whN) (FnsR.cons (wBodyR_ok) (FnsR.nil)))))) EqsOk.nil) rfl Try.func34 (by kernel_rfl) (fun W0 G=>LpsOk.cons (by kernel_rfl) (mapG_sound (id:=5) ((fun (W0:World) (G:Nat→Prop)=>SyOk.mk2 Try.mixed dkHo_ok (FnsR.cons (R_mck) (FnsR.cons (F_new_ok (J:=dkI) (hx:=hardDk)) (FnsR.cons (F_done_ok (J:=dkI) (hx:=hardDk)) (FnsR.cons (R_whN) (FnsR.cons (wBodyR_ok) (FnsR.nil)))))) EqsOk.nil) W0 G) rfl (fun w e mem h=>bx_ok (W0:=W0) (G:=G) 0 w e mem h)) (LpsOk.nil _)) (cs:=[false]) (by kernel_rfl) (encR_w0 ty cl ss sq bo kd er f1 f2 d1 d2 nm ot mo pl da ve h0 h1 h2 h3 h4) w e vs hM ha
 ·cases h
theorem R_encR:RowOk Try.prog Id' hardD 34 (ctrF Id' C_encR hardD):=ctrF_ok Try.call34 C_encR_ok
theorem encB_w0 (ty cl ss sq bo kd er f1 f2 d1 d2:Int) (nm ot:ByteArray) (mo pl:Int) (da:ByteArray) (ve:Int) (h0:(Mm.checkI (⟨ty,cl,ss,sq,bo,kd,er,f1,f2,d1,d2,nm,ot,mo,pl,da,ve,ents []⟩:Mm.Msg) != 0)=true):∃ qs,wayO Id' ([]:Mem Td).length [] (.tup [.one (.v (.slice none 0 0)),.one (.v (.int .i64 (Mm.checkI (⟨ty,cl,ss,sq,bo,kd,er,f1,f2,d1,d2,nm,ot,mo,pl,da,ve,ents []⟩:Mm.Msg))))]) ((runFn (⟨Try.prog,[(139,ctrV C_mck hardD)],[],dkHo,Id'.one,60⟩:Sy Td) [] Try.f34 [.agg [.v (.int .i64 ty),.v (.int .i64 cl),.v (.int .u64 ss),.v (.int .u64 sq),.v (.int .u64 bo),.v (.int .i64 kd),.v (.int .i64 er),.v (.int .i64 f1),.v (.int .i64 f2),.v (.int .i64 d1),.v (.int .i64 d2),.v (.string nm),.v (.string ot),.v (.int .i64 mo),.v (.int .i64 pl),.v (.string da),.v (.int .u64 ve),.v (.slice none 0 0)]] []).al [true])=some qs∧∀ q∈qs,q:=
 ⟨[(Mm.checkI (Mm.Msg.mk ty cl ss sq bo kd er f1 f2 d1 d2 nm ot mo pl da ve (ents [])) != (0:Int))=true,Value.slice none 0 0=Value.slice none 0 0,Value.int IntKind.i64 (Mm.checkI (Mm.Msg.mk ty cl ss sq bo kd er f1 f2 d1 d2 nm ot mo pl da ve (ents [])))=Value.int IntKind.i64 (Mm.checkI (Mm.Msg.mk ty cl ss sq bo kd er f1 f2 d1 d2 nm ot mo pl da ve (ents [])))],by kernel_rfl,(by refine mcons ?_ (mcons ?_ (mcons ?_ mnil))<;>first|rfl|exact h0|trivial)⟩
def C_encB:Ctr Td:=fun us sub=>match us,sub with
 |[.agg [.v (.int .i64 ty),.v (.int .i64 cl),.v (.int .u64 ss),.v (.int .u64 sq),.v (.int .u64 bo),.v (.int .i64 kd),.v (.int .i64 er),.v (.int .i64 f1),.v (.int .i64 f2),.v (.int .i64 d1),.v (.int .i64 d2),.v (.string nm),.v (.string ot),.v (.int .i64 mo),.v (.int .i64 pl),.v (.string da),.v (.int .u64 ve),.v (.slice none 0 0)]],[]=>some ([(Mm.checkI (⟨ty,cl,ss,sq,bo,kd,er,f1,f2,d1,d2,nm,ot,mo,pl,da,ve,ents []⟩:Mm.Msg) != 0)=true],.tup [.one (.v (.slice none 0 0)),.one (.v (.int .i64 (Mm.checkI (⟨ty,cl,ss,sq,bo,kd,er,f1,f2,d1,d2,nm,ot,mo,pl,da,ve,ents []⟩:Mm.Msg))))],[])
 |_,_=>none
theorem C_encB_ok:CtrOk Try.prog Id' 34 C_encB:=by
 intro us sub ps x sm h hp w e vs hM ha
 unfold C_encB at h
 split at h
 ·rename_i ty cl ss sq bo kd er f1 f2 d1 d2 nm ot mo pl da ve
  simp only [Option.some.injEq,Prod.mk.injEq] at h
  obtain ⟨rfl,rfl,rfl⟩:=h
  have h0:=hp _ ((List.mem_cons_self ..))
  exact ctr_way (I:=Id') (fun (W0:World) (G:Nat→Prop)=>SyOk.mk2 Try.mixed dkHo_ok (FnsR.cons (R_mck) (FnsR.nil)) EqsOk.nil) rfl Try.func34 (by kernel_rfl) (fun W0 G=>LpsOk.nil _) (cs:=[true]) (by kernel_rfl) (encB_w0 ty cl ss sq bo kd er f1 f2 d1 d2 nm ot mo pl da ve h0) w e vs hM ha
 ·cases h
theorem R_encB:RowOk Try.prog Id' hardD 34 (ctrF Id' C_encB hardD):=ctrF_ok Try.call34 C_encB_ok
end Go.Proofs.Ytiiekgcjilelpaa
