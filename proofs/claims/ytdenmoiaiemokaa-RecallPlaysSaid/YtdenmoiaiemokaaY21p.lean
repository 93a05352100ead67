/- Y14 Y15 Y16 Y17 Y18 Y19 Y20 Y21. -/
import Derived.Test.YtdenmoiaiemokaaY13p
import Derived.Test.YtdenmoiaiemokaaH13p
import Derived.Laws.OwnMore
import Derived.Lib.SliceRun
set_option maxRecDepth 100000
set_option linter.unusedSimpArgs false
set_option linter.unusedVariables false
namespace Go.Proofs.Ytdenmoiaiemokaa
open Go.RowKit
def seP (Z:List Rw) (r:Rw):Bool:=decide (rmE Z (r.is.getD 0 0) (r.is.getD 1 0) (r.is.getD 2 0)>0)
theorem rse_n1 (Y Z:List Rw) (Xs Ys:List Rw) (k:Nat) (f:Nat→Value) (h0:decide ((k:Int)<(Y.length:Int))=true) (h1:IntKind.i64.wrap ((k:Int)+1)=((k+1:Nat):Int)) (h2:k<Y.length) (h3:(seP Z) (Y.getD k Rw.zero)=true) (h4:Xs++[nr3 (Y.getD k Rw.zero)]=Ys) (h5:Xs.length≤10000) (h6:Z.length≤100000):∃ qs,alN Id' 4 [(5,.c (.one (.obj 4))),(6,.c (.one (.v (.int .i64 ((k+1:Nat):Int)))))] [⟨.bx [.obj 2],true⟩,⟨.bx [.obj 3],true⟩,⟨.us (.ext (.flat (.rw 176 [false,false,false] Y))),true⟩,⟨.us (.ext (.flat (.rw 178 [false,false,false,false] Z))),true⟩,⟨.us (.ext (.flat (.rw 176 [false,false,false] Ys))),true⟩] ((symC (⟨Try.prog,[(113,ctrV C_rmd hardD)],[E_of Try.prog 57],dkHo,Id'.one,60⟩:Sy Td) [] 59 (hdC (loopsC (bodyOf Try.f54)) 0) ⟨[(5,.c (.one (.obj 4))),(6,.c (.one (.v (.int .i64 (k:Int)))))]++anyB' (writesC (hdC (loopsC (bodyOf Try.f54)) 0)) ([(0,.c (.one (.ptr 0 0))),(1,.c (.one (.ptr 1 0)))]++tabV f 59),[⟨.bx [.obj 2],true⟩,⟨.bx [.obj 3],true⟩,⟨.us (.ext (.flat (.rw 176 [false,false,false] Y))),true⟩,⟨.us (.ext (.flat (.rw 178 [false,false,false,false] Z))),true⟩,⟨.us (.ext (.flat (.rw 176 [false,false,false] Xs))),true⟩],0⟩).al [true,true])=some qs∧∀ q∈qs,q:=
 ⟨[decide ((↑k:Int)<(↑(FL.rw 176 [false,false,false] Y).n:Int))=true,Z.length≤(100000:Nat),(0:Int)≤(↑k:Int)∧(↑k:Int).toNat<(FL.rw 176 [false,false,false] Y).n,(0:Int)≤(↑k:Int)∧(↑k:Int).toNat<(FL.rw 176 [false,false,false] Y).n,decide (rmE Z ((Y.getD (↑k:Int).toNat Rw.zero).is.getD (0:Nat) (0:Int)) ((Y.getD (↑k:Int).toNat Rw.zero).is.getD ((0:Nat)+(1:Nat)) (0:Int)) ((Y.getD (↑k:Int).toNat Rw.zero).is.getD ((0:Nat)+(1:Nat)+(1:Nat)) (0:Int))>(0:Int))=true,Xs.length+[Rw.mk [(Y.getD (↑k:Int).toNat Rw.zero).is.getD (0:Nat) (0:Int),(Y.getD (↑k:Int).toNat Rw.zero).is.getD ((0:Nat)+(1:Nat)) (0:Int),(Y.getD (↑k:Int).toNat Rw.zero).is.getD ((0:Nat)+(1:Nat)+(1:Nat)) (0:Int)] []].length≤(100000:Nat),(0:Int)≤(↑k:Int)∧(↑k:Int).toNat<(FL.rw 176 [false,false,false] Y).n,(Th.ext (Dk.flat (FL.rw 176 [false,false,false] Y)):Td)=Th.ext (Dk.flat (FL.rw 176 [false,false,false] Y)),(Th.ext (Dk.flat (FL.rw 178 [false,false,false,false] Z)):Td)=Th.ext (Dk.flat (FL.rw 178 [false,false,false,false] Z)),(Th.ext (Dk.flat (FL.rw 176 [false,false,false] (Xs++[nr3 (Y.getD k Rw.zero)]))):Td)=Th.ext (Dk.flat (FL.rw 176 [false,false,false] Ys)),Value.int IntKind.i64 (IntKind.i64.wrap ((↑k:Int)+(1:Int)))=Value.int IntKind.i64 (↑(k+(1:Nat)):Int)],by kernel_rfl,(by refine mcons ?_ (mcons ?_ (mcons ?_ (mcons ?_ (mcons ?_ (mcons ?_ (mcons ?_ (mcons ?_ (mcons ?_ (mcons ?_ (mcons ?_ mnil))))))))))<;>first|rfl|exact h0|exact h1|exact h2|exact h3|exact h4|exact h5|exact h6|trivial|(exact congrArg (fun x=>(Th.ext (Dk.flat (FL.rw 176 [false,false,false] x)):Td)) h4)|(exact congrArg (fun x=>(Th.ext (Dk.flat (FL.rw 176 [false,false,false] x)):Td)) h1)|(exact congrArg (Value.int .i64) h1)|(show Xs.length+1≤100000;omega)|(exact ⟨by omega,by show (k:Int).toNat<Y.length;omega⟩))⟩
theorem rse_n2 (Y Z:List Rw) (Xs Ys:List Rw) (k:Nat) (f:Nat→Value) (h0:decide ((k:Int)<(Y.length:Int))=true) (h1:IntKind.i64.wrap ((k:Int)+1)=((k+1:Nat):Int)) (h2:k<Y.length) (h3:(seP Z) (Y.getD k Rw.zero)=false) (h4:Xs=Ys) (h5:Z.length≤100000):∃ qs,alN Id' 4 [(5,.c (.one (.obj 4))),(6,.c (.one (.v (.int .i64 ((k+1:Nat):Int)))))] [⟨.bx [.obj 2],true⟩,⟨.bx [.obj 3],true⟩,⟨.us (.ext (.flat (.rw 176 [false,false,false] Y))),true⟩,⟨.us (.ext (.flat (.rw 178 [false,false,false,false] Z))),true⟩,⟨.us (.ext (.flat (.rw 176 [false,false,false] Ys))),true⟩] ((symC (⟨Try.prog,[(113,ctrV C_rmd hardD)],[E_of Try.prog 57],dkHo,Id'.one,60⟩:Sy Td) [] 59 (hdC (loopsC (bodyOf Try.f54)) 0) ⟨[(5,.c (.one (.obj 4))),(6,.c (.one (.v (.int .i64 (k:Int)))))]++anyB' (writesC (hdC (loopsC (bodyOf Try.f54)) 0)) ([(0,.c (.one (.ptr 0 0))),(1,.c (.one (.ptr 1 0)))]++tabV f 59),[⟨.bx [.obj 2],true⟩,⟨.bx [.obj 3],true⟩,⟨.us (.ext (.flat (.rw 176 [false,false,false] Y))),true⟩,⟨.us (.ext (.flat (.rw 178 [false,false,false,false] Z))),true⟩,⟨.us (.ext (.flat (.rw 176 [false,false,false] Xs))),true⟩],0⟩).al [true,false])=some qs∧∀ q∈qs,q:=
 ⟨[decide ((↑k:Int)<(↑(FL.rw 176 [false,false,false] Y).n:Int))=true,Z.length≤(100000:Nat),(0:Int)≤(↑k:Int)∧(↑k:Int).toNat<(FL.rw 176 [false,false,false] Y).n,(0:Int)≤(↑k:Int)∧(↑k:Int).toNat<(FL.rw 176 [false,false,false] Y).n,decide (rmE Z ((Y.getD (↑k:Int).toNat Rw.zero).is.getD (0:Nat) (0:Int)) ((Y.getD (↑k:Int).toNat Rw.zero).is.getD ((0:Nat)+(1:Nat)) (0:Int)) ((Y.getD (↑k:Int).toNat Rw.zero).is.getD ((0:Nat)+(1:Nat)+(1:Nat)) (0:Int))>(0:Int))=false,(Th.ext (Dk.flat (FL.rw 176 [false,false,false] Y)):Td)=Th.ext (Dk.flat (FL.rw 176 [false,false,false] Y)),(Th.ext (Dk.flat (FL.rw 178 [false,false,false,false] Z)):Td)=Th.ext (Dk.flat (FL.rw 178 [false,false,false,false] Z)),(Th.ext (Dk.flat (FL.rw 176 [false,false,false] Xs)):Td)=Th.ext (Dk.flat (FL.rw 176 [false,false,false] Ys)),Value.int IntKind.i64 (IntKind.i64.wrap ((↑k:Int)+(1:Int)))=Value.int IntKind.i64 (↑(k+(1:Nat)):Int)],by kernel_rfl,(by refine mcons ?_ (mcons ?_ (mcons ?_ (mcons ?_ (mcons ?_ (mcons ?_ (mcons ?_ (mcons ?_ (mcons ?_ mnil))))))))<;>first|rfl|exact h0|exact h1|exact h2|exact h3|exact h4|exact h5|trivial|(exact congrArg (fun x=>(Th.ext (Dk.flat (FL.rw 176 [false,false,false] x)):Td)) h4)|(exact congrArg (fun x=>(Th.ext (Dk.flat (FL.rw 176 [false,false,false] x)):Td)) h4)|(exact congrArg (Value.int .i64) h1)|(show Xs.length+1≤100000;omega)|(exact ⟨by omega,by show (k:Int).toNat<Y.length;omega⟩))⟩
theorem rse_x (Y Z:List Rw) (Xs Ys:List Rw) (k:Nat) (f:Nat→Value) (h0:decide ((k:Int)<(Y.length:Int))=false) (h1:Xs=Ys):∃ qs,alX Id' 4 0 [(5,.c (.one (.obj 4)))] [⟨.bx [.obj 2],true⟩,⟨.bx [.obj 3],true⟩,⟨.us (.ext (.flat (.rw 176 [false,false,false] Y))),true⟩,⟨.us (.ext (.flat (.rw 178 [false,false,false,false] Z))),true⟩,⟨.us (.ext (.flat (.rw 176 [false,false,false] Ys))),true⟩] ((symC (⟨Try.prog,[(113,ctrV C_rmd hardD)],[E_of Try.prog 57],dkHo,Id'.one,60⟩:Sy Td) [] 59 (hdC (loopsC (bodyOf Try.f54)) 0) ⟨[(5,.c (.one (.obj 4))),(6,.c (.one (.v (.int .i64 (k:Int)))))]++anyB' (writesC (hdC (loopsC (bodyOf Try.f54)) 0)) ([(0,.c (.one (.ptr 0 0))),(1,.c (.one (.ptr 1 0)))]++tabV f 59),[⟨.bx [.obj 2],true⟩,⟨.bx [.obj 3],true⟩,⟨.us (.ext (.flat (.rw 176 [false,false,false] Y))),true⟩,⟨.us (.ext (.flat (.rw 178 [false,false,false,false] Z))),true⟩,⟨.us (.ext (.flat (.rw 176 [false,false,false] Xs))),true⟩],0⟩).al [false])=some qs∧∀ q∈qs,q:=
 ⟨[decide ((↑k:Int)<(↑(FL.rw 176 [false,false,false] Y).n:Int))=false,(Th.ext (Dk.flat (FL.rw 176 [false,false,false] Y)):Td)=Th.ext (Dk.flat (FL.rw 176 [false,false,false] Y)),(Th.ext (Dk.flat (FL.rw 178 [false,false,false,false] Z)):Td)=Th.ext (Dk.flat (FL.rw 178 [false,false,false,false] Z)),(Th.ext (Dk.flat (FL.rw 176 [false,false,false] Xs)):Td)=Th.ext (Dk.flat (FL.rw 176 [false,false,false] Ys))],by kernel_rfl,(by refine mcons ?_ (mcons ?_ (mcons ?_ (mcons ?_ mnil)))<;>first|rfl|exact h0|exact h1|trivial|(exact congrArg (fun x=>(Th.ext (Dk.flat (FL.rw 176 [false,false,false] x)):Td)) h4)|(exact congrArg (fun x=>(Th.ext (Dk.flat (FL.rw 176 [false,false,false] x)):Td)) h1)|(exact congrArg (Value.int .i64) h1)|(show Xs.length+1≤100000;omega)|(exact ⟨by omega,by show (k:Int).toNat<Y.length;omega⟩))⟩
theorem rse_lp (Y Z:List Rw) (hY:Y.length≤10000) (x0:Z.length≤100000) {W0:World} {G:Nat→Prop} (S0:Sy Td) (hS0:S0.P=Try.prog):LoopSound S0 Id' W0 G 59 (hdC (loopsC (bodyOf Try.f54)) 0) (lpG Id' 59 (hdC (loopsC (bodyOf Try.f54)) 0) 4 [(5,.c (.one (.obj 4))),(6,.c (.one (.v (.int .i64 ((0:Nat):Int)))))] [(0,.c (.one (.ptr 0 0))),(1,.c (.one (.ptr 1 0)))] [⟨.bx [.obj 2],true⟩,⟨.bx [.obj 3],true⟩,⟨.us (.ext (.flat (.rw 176 [false,false,false] Y))),true⟩,⟨.us (.ext (.flat (.rw 178 [false,false,false,false] Z))),true⟩,⟨.us (.ext (.flat (.rw 176 [false,false,false] (gaR (seP Z) Y 0)))),true⟩] (.leaf (.exit 0) [(5,.c (.one (.obj 4)))] [⟨.bx [.obj 2],true⟩,⟨.bx [.obj 3],true⟩,⟨.us (.ext (.flat (.rw 176 [false,false,false] Y))),true⟩,⟨.us (.ext (.flat (.rw 178 [false,false,false,false] Z))),true⟩,⟨.us (.ext (.flat (.rw 176 [false,false,false] (gaR (seP Z) Y Y.length)))),true⟩])):=by
 refine lp_sound (V:=fun k=>[(5,.c (.one (.obj 4))),(6,.c (.one (.v (.int .i64 (k:Int)))))]) (M:=(fun k=>[⟨.bx [.obj 2],true⟩,⟨.bx [.obj 3],true⟩,⟨.us (.ext (.flat (.rw 176 [false,false,false] Y))),true⟩,⟨.us (.ext (.flat (.rw 178 [false,false,false,false] Z))),true⟩,⟨.us (.ext (.flat (.rw 176 [false,false,false] (gaR (seP Z) Y k)))),true⟩]:Nat→Mem Td)) (N:=Y.length) (Ux:=fun k x=>match x with|.exit 0=>some ([(5,.c (.one (.obj 4)))],([⟨.bx [.obj 2],true⟩,⟨.bx [.obj 3],true⟩,⟨.us (.ext (.flat (.rw 176 [false,false,false] Y))),true⟩,⟨.us (.ext (.flat (.rw 178 [false,false,false,false] Z))),true⟩,⟨.us (.ext (.flat (.rw 176 [false,false,false] (gaR (seP Z) Y Y.length)))),true⟩]:Mem Td))|_=>none) (X:=fun _ _=>True) (J:=fun k=>k≤Y.length) (fun k=>by kernel_rfl) (Nat.zero_le _) (fun k hk hJ f=>?_) (fun K hK k x U hk hU hX=>?_)
 ·rw [hS0]
  have hXl:=gaR_len (seP Z) Y k
  cases hT:decide ((k:Int)<(Y.length:Int)) with
  |false=>
   have hk1:k=Y.length:=by have:=of_decide_eq_false hT;omega
   exact rnd_xD (⟨Try.prog,[(113,ctrV C_rmd hardD)],[E_of Try.prog 57],dkHo,Id'.one,60⟩:Sy Td) rfl ((fun (W0:World) (G:Nat→Prop)=>SyOk.mk2 Try.mixed dkHo_ok (FnsR.cons (R_rmd) (FnsR.nil)) (E_of_ok (by kernel_rfl) (EqsOk.nil))) W0 G) (rse_x Y Z _ _ k f hT (by rw [hk1])) rfl trivial
  |true=>
   have hk1:k<Y.length:=by have:=of_decide_eq_true hT;omega
   have hW:IntKind.i64.wrap ((k:Int)+1)=((k+1:Nat):Int):=by rw [IntWalk.i64_in _ (by omega)];omega
   cases hE:(seP Z) (Y.getD k Rw.zero) with
   |true=>exact rnd_nD (⟨Try.prog,[(113,ctrV C_rmd hardD)],[E_of Try.prog 57],dkHo,Id'.one,60⟩:Sy Td) rfl ((fun (W0:World) (G:Nat→Prop)=>SyOk.mk2 Try.mixed dkHo_ok (FnsR.cons (R_rmd) (FnsR.nil)) (E_of_ok (by kernel_rfl) (EqsOk.nil))) W0 G) (rse_n1 Y Z _ _ k f hT hW hk1 hE (gaR_yes hE).symm (by omega) x0) rfl rfl (by omega) (by omega)
   |false=>exact rnd_nD (⟨Try.prog,[(113,ctrV C_rmd hardD)],[E_of Try.prog 57],dkHo,Id'.one,60⟩:Sy Td) rfl ((fun (W0:World) (G:Nat→Prop)=>SyOk.mk2 Try.mixed dkHo_ok (FnsR.cons (R_rmd) (FnsR.nil)) (E_of_ok (by kernel_rfl) (EqsOk.nil))) W0 G) (rse_n2 Y Z _ _ k f hT hW hk1 hE (gaR_no hE).symm x0) rfl rfl (by omega) (by omega)
 ·revert hU
  match x with
  |.exit 0=>intro hU;simp only [Option.some.injEq] at hU;subst hU;exact hK
  |.normal=>intro hU;cases hU
  |.ret=>intro hU;cases hU
  |.exit (n+1)=>intro hU;cases hU
theorem rse_w0 (Y Z:List Rw) (h0:Y.length≤10000) (h1:Z.length≤100000):∃ qs,wayO Id' ([⟨.bx [.obj 2],true⟩,⟨.bx [.obj 3],true⟩,⟨.us (.ext (.flat (.rw 176 [false,false,false] Y))),true⟩,⟨.us (.ext (.flat (.rw 178 [false,false,false,false] Z))),true⟩]:Mem Td).length [⟨.bx [.obj 4],true⟩,⟨.bx [.obj 3],true⟩,⟨.dead,true⟩,⟨.us (.ext (.flat (.rw 178 [false,false,false,false] Z))),true⟩,⟨.us (.ext (.flat (.rw 176 [false,false,false] (gaR (seP Z) Y Y.length)))),true⟩] (.c (.one (.v (.int .i64 (IntKind.i64.wrap ((Y.length:Int) - ((gaR (seP Z) Y Y.length).length:Int))))))) ((runFn (⟨Try.prog,[(113,ctrV C_rmd hardD)],[E_of Try.prog 57],dkHo,Id'.one,60⟩:Sy Td) [(3,(lpG Id' 59 (hdC (loopsC (bodyOf Try.f54)) 0) 4 [(5,.c (.one (.obj 4))),(6,.c (.one (.v (.int .i64 ((0:Nat):Int)))))] [(0,.c (.one (.ptr 0 0))),(1,.c (.one (.ptr 1 0)))] [⟨.bx [.obj 2],true⟩,⟨.bx [.obj 3],true⟩,⟨.us (.ext (.flat (.rw 176 [false,false,false] Y))),true⟩,⟨.us (.ext (.flat (.rw 178 [false,false,false,false] Z))),true⟩,⟨.us (.ext (.flat (.rw 176 [false,false,false] (gaR (seP Z) Y 0)))),true⟩] (.leaf (.exit 0) [(5,.c (.one (.obj 4)))] [⟨.bx [.obj 2],true⟩,⟨.bx [.obj 3],true⟩,⟨.us (.ext (.flat (.rw 176 [false,false,false] Y))),true⟩,⟨.us (.ext (.flat (.rw 178 [false,false,false,false] Z))),true⟩,⟨.us (.ext (.flat (.rw 176 [false,false,false] (gaR (seP Z) Y Y.length)))),true⟩])))] Try.f54 [.one (.ptr 0 0),.one (.ptr 1 0)] [⟨.bx [.obj 2],true⟩,⟨.bx [.obj 3],true⟩,⟨.us (.ext (.flat (.rw 176 [false,false,false] Y))),true⟩,⟨.us (.ext (.flat (.rw 178 [false,false,false,false] Z))),true⟩]).al [])=some qs∧∀ q∈qs,q:=
 ⟨[(Th.ext (Dk.flat (FL.rw 176 [false,false,false] Y)):Td)=Th.ext (Dk.flat (FL.rw 176 [false,false,false] Y)),(Th.ext (Dk.flat (FL.rw 178 [false,false,false,false] Z)):Td)=Th.ext (Dk.flat (FL.rw 178 [false,false,false,false] Z)),∀ (w:World),Id'.holds (Th.ext (Dk.flat (FL.rw 176 [false,false,false] (gaR (seP Z) Y (0:Nat))))) w nilV∧∀ (j:Nat),¬Id'.foot (Th.ext (Dk.flat (FL.rw 176 [false,false,false] (gaR (seP Z) Y (0:Nat))))) w nilV j,Value.int IntKind.i64 (Int.ofNat 0)=Value.int IntKind.i64 (Int.ofNat (0:Nat)),(Th.ext (Dk.flat (FL.rw 178 [false,false,false,false] Z)):Td)=Th.ext (Dk.flat (FL.rw 178 [false,false,false,false] Z)),(Th.ext (Dk.flat (FL.rw 176 [false,false,false] (Nat.brecOn.go Y.length (gaR._f (seP Z) Y)).1)):Td)=Th.ext (Dk.flat (FL.rw 176 [false,false,false] (Nat.brecOn.go Y.length (gaR._f (seP Z) Y)).1)),Value.int IntKind.i64 (IntKind.i64.wrap ((↑(FL.rw 176 [false,false,false] Y).n:Int) - (↑(FL.rw 176 [false,false,false] (gaR (seP Z) Y Y.length)).n:Int)))=Value.int IntKind.i64 (IntKind.i64.wrap ((↑Y.length:Int) - (↑(gaR (seP Z) Y Y.length).length:Int)))],by kernel_rfl,(by refine mcons ?_ (mcons ?_ (mcons ?_ (mcons ?_ (mcons ?_ (mcons ?_ (mcons ?_ mnil))))))<;>first|rfl|exact h0|exact h1|trivial|(exact h0)|(exact nil_rw3 rfl))⟩
def C_rse:Ctr Td:=fun us sub=>match us,sub with
 |[.one (.ptr 0 0),.one (.ptr 1 0)],[⟨.bx [.obj 2],true⟩,⟨.bx [.obj 3],true⟩,⟨.us (.ext (.flat (.rw 176 [false,false,false] Y))),true⟩,⟨.us (.ext (.flat (.rw 178 [false,false,false,false] Z))),true⟩]=>some ([Y.length≤10000,Z.length≤100000],.c (.one (.v (.int .i64 (IntKind.i64.wrap ((Y.length:Int) - ((gaR (seP Z) Y Y.length).length:Int)))))),[⟨.bx [.obj 4],true⟩,⟨.bx [.obj 3],true⟩,⟨.dead,true⟩,⟨.us (.ext (.flat (.rw 178 [false,false,false,false] Z))),true⟩,⟨.us (.ext (.flat (.rw 176 [false,false,false] (gaR (seP Z) Y Y.length)))),true⟩])
 |_,_=>none
theorem C_rse_ok:CtrOk Try.prog Id' 54 C_rse:=by
 intro us sub ps x sm h hp w e vs hM ha
 unfold C_rse at h
 split at h
 ·rename_i Y Z
  simp only [Option.some.injEq,Prod.mk.injEq] at h
  obtain ⟨rfl,rfl,rfl⟩:=h
  have h0:=hp _ ((List.mem_cons_self ..))
  have h1:=hp _ (List.mem_cons_of_mem _ ((List.mem_cons_self ..)))
  exact ctr_way (I:=Id') (fun (W0:World) (G:Nat→Prop)=>SyOk.mk2 Try.mixed dkHo_ok (FnsR.cons (R_rmd) (FnsR.nil)) (E_of_ok (by kernel_rfl) (EqsOk.nil))) rfl Try.func54 (by kernel_rfl) (fun W0 G=>LpsOk.cons (by kernel_rfl) (rse_lp Y Z h0 h1 _ rfl) (LpsOk.nil _)) (cs:=[]) (by kernel_rfl) (rse_w0 Y Z h0 h1) w e vs hM ha
 ·cases h
theorem R_rse:RowOk Try.prog Id' hardD 54 (ctrF Id' C_rse hardD):=ctrF_ok Try.call54 C_rse_ok
def neS (Y:List Rw) (a b:Int) (L:List Int):Nat→List Rw×Int
 |0=>(Y,0)
 |k+1=>(wtT (neS Y a b L k).1 a b (L.getD k 0),bif wtE (neS Y a b L k).1 a b (L.getD k 0)==0 then (neS Y a b L k).2+1 else (neS Y a b L k).2)
theorem wtT_len (Y:List Rw) (a b c:Int):(wtT Y a b c).length≤Y.length+1:=by
 unfold wtT
 cases (decide (c<0)||decide (c>7)) with
 |true=>simp only [cond_true];omega
 |false=>
  cases hsE Y a b c with
  |true=>simp only [cond_true,cond_false];omega
  |false=>simp only [cond_false,List.length_append,List.length_cons,List.length_nil];omega
theorem neS_len (Y:List Rw) (a b:Int) (L:List Int):∀ k,(neS Y a b L k).1.length≤Y.length+k∧0≤(neS Y a b L k).2∧(neS Y a b L k).2≤(k:Int)
 |0=>⟨Nat.le_refl _,Int.le_refl _,Int.le_refl _⟩
 |k+1=>by
  obtain ⟨h1,h2,h3⟩:=neS_len Y a b L k
  have h4:=wtT_len (neS Y a b L k).1 a b (L.getD k 0)
  refine ⟨by show (wtT _ _ _ _).length≤_;omega,?_⟩
  show 0≤(bif _ then _ else _)∧(bif _ then _ else _)≤_
  cases wtE (neS Y a b L k).1 a b (L.getD k 0)==0 with
  |true=>simp only [cond_true];omega
  |false=>simp only [cond_false];omega
theorem rne_n (Z:List Rw) (a b:Int) (L:List Int) (X Xn:List Rw) (n nn:Int) (k:Nat) (f:Nat→Value) (h0:decide ((k:Int)<(L.length:Int))=true) (h1:IntKind.i64.wrap ((k:Int)+1)=((k+1:Nat):Int)) (h2:k<L.length) (h3:True) (h4:wtT X a b (L.getD k 0)=Xn) (h5:(bif wtE X a b (L.getD k 0)==0 then IntKind.i64.wrap (n+1) else n)=nn) (h6:X.length≤10000):∃ qs,alN Id' 6 [(12,.c (.one (.v (.int .i64 nn)))),(13,.c (.one (.v (.int .i64 ((k+1:Nat):Int)))))] [⟨.bx [.obj 6],true⟩,⟨.bx [.obj 3],true⟩,⟨.dead,true⟩,⟨.us (.ext (.flat (.rw 178 [false,false,false,false] Z))),true⟩,⟨.blk [.v (.int .i64 a),.v (.int .i64 b)],true⟩,⟨.us (.ins L),true⟩,⟨.us (.ext (.flat (.rw 176 [false,false,false] Xn))),true⟩] ((symC (⟨Try.prog,[(49,ctrF Id' C_rwt hardD)],[],dkHo,Id'.one,60⟩:Sy Td) [] 36 (hdC (loopsC (bodyOf Try.f55)) 0) ⟨[(12,.c (.one (.v (.int .i64 n)))),(13,.c (.one (.v (.int .i64 (k:Int)))))]++anyB' (writesC (hdC (loopsC (bodyOf Try.f55)) 0)) ([(0,.c (.one (.ptr 0 0))),(7,.c (.one (.ptr 4 0))),(11,.c (.one (.obj 5)))]++tabV f 36),[⟨.bx [.obj 6],true⟩,⟨.bx [.obj 3],true⟩,⟨.dead,true⟩,⟨.us (.ext (.flat (.rw 178 [false,false,false,false] Z))),true⟩,⟨.blk [.v (.int .i64 a),.v (.int .i64 b)],true⟩,⟨.us (.ins L),true⟩,⟨.us (.ext (.flat (.rw 176 [false,false,false] X))),true⟩],0⟩).al [true])=some qs∧∀ q∈qs,q:=
 ⟨[decide ((↑k:Int)<(↑L.length:Int))=true,X.length≤(10000:Nat),(0:Int)≤(↑k:Int)∧(↑k:Int).toNat<L.length,(Th.ext (Dk.flat (FL.rw 178 [false,false,false,false] Z)):Td)=Th.ext (Dk.flat (FL.rw 178 [false,false,false,false] Z)),Value.int IntKind.i64 a=Value.int IntKind.i64 a,Value.int IntKind.i64 b=Value.int IntKind.i64 b,(Th.ins L:Td)=Th.ins L,(Th.ext (Dk.flat (FL.rw 176 [false,false,false] (wtT X a b (L.getD (↑k:Int).toNat (0:Int))))):Td)=Th.ext (Dk.flat (FL.rw 176 [false,false,false] Xn)),Value.int IntKind.i64 (bif wtE X a b (L.getD (↑k:Int).toNat (0:Int))==(0:Int) then IntKind.i64.wrap (n+(1:Int)) else n)=Value.int IntKind.i64 nn,Value.int IntKind.i64 (IntKind.i64.wrap ((↑k:Int)+(1:Int)))=Value.int IntKind.i64 (↑(k+(1:Nat)):Int)],by kernel_rfl,(by refine mcons ?_ (mcons ?_ (mcons ?_ (mcons ?_ (mcons ?_ (mcons ?_ (mcons ?_ (mcons ?_ (mcons ?_ (mcons ?_ mnil)))))))))<;>first|rfl|exact h0|exact h1|exact h2|exact h3|exact h4|exact h5|exact h6|trivial|(exact congrArg (fun x=>(Th.ext (Dk.flat (FL.rw 176 [false,false,false] x)):Td)) h4)|(exact congrArg (Value.int .i64) h1)|(exact congrArg (Value.int .i64) h5)|(exact ⟨by omega,by show (k:Int).toNat<L.length;omega⟩))⟩
theorem rne_x (Z:List Rw) (a b:Int) (L:List Int) (X Xn:List Rw) (n nn:Int) (k:Nat) (f:Nat→Value) (h0:decide ((k:Int)<(L.length:Int))=false):∃ qs,alX Id' 6 0 [(12,.c (.one (.v (.int .i64 n))))] [⟨.bx [.obj 6],true⟩,⟨.bx [.obj 3],true⟩,⟨.dead,true⟩,⟨.us (.ext (.flat (.rw 178 [false,false,false,false] Z))),true⟩,⟨.blk [.v (.int .i64 a),.v (.int .i64 b)],true⟩,⟨.us (.ins L),true⟩,⟨.us (.ext (.flat (.rw 176 [false,false,false] X))),true⟩] ((symC (⟨Try.prog,[(49,ctrF Id' C_rwt hardD)],[],dkHo,Id'.one,60⟩:Sy Td) [] 36 (hdC (loopsC (bodyOf Try.f55)) 0) ⟨[(12,.c (.one (.v (.int .i64 n)))),(13,.c (.one (.v (.int .i64 (k:Int)))))]++anyB' (writesC (hdC (loopsC (bodyOf Try.f55)) 0)) ([(0,.c (.one (.ptr 0 0))),(7,.c (.one (.ptr 4 0))),(11,.c (.one (.obj 5)))]++tabV f 36),[⟨.bx [.obj 6],true⟩,⟨.bx [.obj 3],true⟩,⟨.dead,true⟩,⟨.us (.ext (.flat (.rw 178 [false,false,false,false] Z))),true⟩,⟨.blk [.v (.int .i64 a),.v (.int .i64 b)],true⟩,⟨.us (.ins L),true⟩,⟨.us (.ext (.flat (.rw 176 [false,false,false] X))),true⟩],0⟩).al [false])=some qs∧∀ q∈qs,q:=
 ⟨[decide ((↑k:Int)<(↑L.length:Int))=false,(Th.ext (Dk.flat (FL.rw 178 [false,false,false,false] Z)):Td)=Th.ext (Dk.flat (FL.rw 178 [false,false,false,false] Z)),Value.int IntKind.i64 a=Value.int IntKind.i64 a,Value.int IntKind.i64 b=Value.int IntKind.i64 b,(Th.ins L:Td)=Th.ins L,(Th.ext (Dk.flat (FL.rw 176 [false,false,false] X)):Td)=Th.ext (Dk.flat (FL.rw 176 [false,false,false] X)),Value.int IntKind.i64 n=Value.int IntKind.i64 n],by kernel_rfl,(by refine mcons ?_ (mcons ?_ (mcons ?_ (mcons ?_ (mcons ?_ (mcons ?_ (mcons ?_ mnil))))))<;>first|rfl|exact h0|trivial|(exact congrArg (fun x=>(Th.ext (Dk.flat (FL.rw 176 [false,false,false] x)):Td)) h4)|(exact congrArg (Value.int .i64) h1)|(exact congrArg (Value.int .i64) h5)|(exact ⟨by omega,by show (k:Int).toNat<L.length;omega⟩))⟩
theorem rne_lp (Y Z:List Rw) (a b:Int) (L:List Int) (hY:Y.length≤9000) (hL:L.length≤8) {W0:World} {G:Nat→Prop} (S0:Sy Td) (hS0:S0.P=Try.prog):LoopSound S0 Id' W0 G 36 (hdC (loopsC (bodyOf Try.f55)) 0) (lpG Id' 36 (hdC (loopsC (bodyOf Try.f55)) 0) 6 [(12,.c (.one (.v (.int .i64 (neS Y a b L 0).2)))),(13,.c (.one (.v (.int .i64 ((0:Nat):Int)))))] [(0,.c (.one (.ptr 0 0))),(7,.c (.one (.ptr 4 0))),(11,.c (.one (.obj 5)))] [⟨.bx [.obj 6],true⟩,⟨.bx [.obj 3],true⟩,⟨.dead,true⟩,⟨.us (.ext (.flat (.rw 178 [false,false,false,false] Z))),true⟩,⟨.blk [.v (.int .i64 a),.v (.int .i64 b)],true⟩,⟨.us (.ins L),true⟩,⟨.us (.ext (.flat (.rw 176 [false,false,false] (neS Y a b L 0).1))),true⟩] (.leaf (.exit 0) [(12,.c (.one (.v (.int .i64 (neS Y a b L L.length).2))))] [⟨.bx [.obj 6],true⟩,⟨.bx [.obj 3],true⟩,⟨.dead,true⟩,⟨.us (.ext (.flat (.rw 178 [false,false,false,false] Z))),true⟩,⟨.blk [.v (.int .i64 a),.v (.int .i64 b)],true⟩,⟨.us (.ins L),true⟩,⟨.us (.ext (.flat (.rw 176 [false,false,false] (neS Y a b L L.length).1))),true⟩])):=by
 refine lp_sound (V:=fun k=>[(12,.c (.one (.v (.int .i64 (neS Y a b L k).2)))),(13,.c (.one (.v (.int .i64 ((k:Nat):Int)))))]) (M:=(fun k=>[⟨.bx [.obj 6],true⟩,⟨.bx [.obj 3],true⟩,⟨.dead,true⟩,⟨.us (.ext (.flat (.rw 178 [false,false,false,false] Z))),true⟩,⟨.blk [.v (.int .i64 a),.v (.int .i64 b)],true⟩,⟨.us (.ins L),true⟩,⟨.us (.ext (.flat (.rw 176 [false,false,false] (neS Y a b L k).1))),true⟩]:Nat→Mem Td)) (N:=L.length) (Ux:=fun k x=>match x with|.exit 0=>some ([(12,.c (.one (.v (.int .i64 (neS Y a b L L.length).2))))],([⟨.bx [.obj 6],true⟩,⟨.bx [.obj 3],true⟩,⟨.dead,true⟩,⟨.us (.ext (.flat (.rw 178 [false,false,false,false] Z))),true⟩,⟨.blk [.v (.int .i64 a),.v (.int .i64 b)],true⟩,⟨.us (.ins L),true⟩,⟨.us (.ext (.flat (.rw 176 [false,false,false] (neS Y a b L L.length).1))),true⟩]:Mem Td))|_=>none) (X:=fun _ _=>True) (J:=fun k=>k≤L.length) (fun k=>by kernel_rfl) (Nat.zero_le _) (fun k hk hJ f=>?_) (fun K hK k x U hk hU hX=>?_)
 ·rw [hS0]
  obtain ⟨hl1,hl2,hl3⟩:=neS_len Y a b L k
  cases hT:decide ((k:Int)<(L.length:Int)) with
  |false=>
   have hke:k=L.length:=by have:=of_decide_eq_false hT;omega
   subst hke
   exact rnd_xD (⟨Try.prog,[(49,ctrF Id' C_rwt hardD)],[],dkHo,Id'.one,60⟩:Sy Td) rfl ((fun (W0:World) (G:Nat→Prop)=>SyOk.mk2 Try.mixed dkHo_ok (FnsR.cons (R_rwt) (FnsR.nil)) EqsOk.nil) W0 G) (rne_x Z a b L _ [] _ 0 _ f hT) rfl trivial
  |true=>
   have hk1:k<L.length:=by have:=of_decide_eq_true hT;omega
   have hW:IntKind.i64.wrap ((k:Int)+1)=((k+1:Nat):Int):=by rw [IntWalk.i64_in _ (by omega)];omega
   have hs:(bif wtE (neS Y a b L k).1 a b (L.getD k 0)==0 then IntKind.i64.wrap ((neS Y a b L k).2+1) else (neS Y a b L k).2)=(neS Y a b L (k+1)).2:=by
    show _=(bif _ then _ else _)
    rw [IntWalk.i64_in _ (by omega)]
   exact rnd_nD (⟨Try.prog,[(49,ctrF Id' C_rwt hardD)],[],dkHo,Id'.one,60⟩:Sy Td) rfl ((fun (W0:World) (G:Nat→Prop)=>SyOk.mk2 Try.mixed dkHo_ok (FnsR.cons (R_rwt) (FnsR.nil)) EqsOk.nil) W0 G) (rne_n Z a b L (neS Y a b L k).1 (neS Y a b L (k+1)).1 (neS Y a b L k).2 (neS Y a b L (k+1)).2 k f hT hW hk1 trivial rfl hs (by omega)) rfl rfl (by omega) (by omega)
 ·revert hU
  match x with
  |.exit 0=>intro hU;simp only [Option.some.injEq] at hU;subst hU;exact hK
  |.normal=>intro hU;cases hU
  |.ret=>intro hU;cases hU
  |.exit (n+1)=>intro hU;cases hU
def rnE (Y Z:List Rw) (a b cl md:Int):List Rw×Int:=neS Y a b (ot1S Z a b cl md 8) (ot1S Z a b cl md 8).length
theorem rne_w0 (Y Z:List Rw) (a b cl md:Int) (h0:Y.length≤9000) (h1:Z.length≤100000):∃ qs,wayO Id' ([⟨.bx [.obj 2],true⟩,⟨.bx [.obj 3],true⟩,⟨.us (.ext (.flat (.rw 176 [false,false,false] Y))),true⟩,⟨.us (.ext (.flat (.rw 178 [false,false,false,false] Z))),true⟩]:Mem Td).length [⟨.bx [.obj 4],true⟩,⟨.bx [.obj 3],true⟩,⟨.dead,true⟩,⟨.us (.ext (.flat (.rw 178 [false,false,false,false] Z))),true⟩,⟨.us (.ext (.flat (.rw 176 [false,false,false] (rnE Y Z a b cl md).1))),true⟩] (.c (.one (.v (.int .i64 (rnE Y Z a b cl md).2)))) ((runFn (⟨Try.prog,[(49,ctrF Id' C_rwt hardD),(111,ctrF Id' C_ot1 hardD)],[],dkHo,Id'.one,60⟩:Sy Td) [(4,(lpG Id' 36 (hdC (loopsC (bodyOf Try.f55)) 0) 6 [(12,.c (.one (.v (.int .i64 (neS Y a b (ot1S Z a b cl md 8) 0).2)))),(13,.c (.one (.v (.int .i64 ((0:Nat):Int)))))] [(0,.c (.one (.ptr 0 0))),(7,.c (.one (.ptr 4 0))),(11,.c (.one (.obj 5)))] [⟨.bx [.obj 6],true⟩,⟨.bx [.obj 3],true⟩,⟨.dead,true⟩,⟨.us (.ext (.flat (.rw 178 [false,false,false,false] Z))),true⟩,⟨.blk [.v (.int .i64 a),.v (.int .i64 b)],true⟩,⟨.us (.ins (ot1S Z a b cl md 8)),true⟩,⟨.us (.ext (.flat (.rw 176 [false,false,false] (neS Y a b (ot1S Z a b cl md 8) 0).1))),true⟩] (.leaf (.exit 0) [(12,.c (.one (.v (.int .i64 (neS Y a b (ot1S Z a b cl md 8) (ot1S Z a b cl md 8).length).2))))] [⟨.bx [.obj 6],true⟩,⟨.bx [.obj 3],true⟩,⟨.dead,true⟩,⟨.us (.ext (.flat (.rw 178 [false,false,false,false] Z))),true⟩,⟨.blk [.v (.int .i64 a),.v (.int .i64 b)],true⟩,⟨.us (.ins (ot1S Z a b cl md 8)),true⟩,⟨.us (.ext (.flat (.rw 176 [false,false,false] (neS Y a b (ot1S Z a b cl md 8) (ot1S Z a b cl md 8).length).1))),true⟩])))] Try.f55 [.one (.ptr 0 0),.one (.ptr 1 0),.agg [.v (.int .i64 a),.v (.int .i64 b)],.one (.v (.int .i64 cl)),.one (.v (.int .i64 md))] [⟨.bx [.obj 2],true⟩,⟨.bx [.obj 3],true⟩,⟨.us (.ext (.flat (.rw 176 [false,false,false] Y))),true⟩,⟨.us (.ext (.flat (.rw 178 [false,false,false,false] Z))),true⟩]).al [])=some qs∧∀ q∈qs,q:=
 ⟨[Z.length≤(100000:Nat),(Th.ext (Dk.flat (FL.rw 178 [false,false,false,false] Z)):Td)=Th.ext (Dk.flat (FL.rw 178 [false,false,false,false] Z)),Value.int IntKind.i64 a=Value.int IntKind.i64 a,Value.int IntKind.i64 b=Value.int IntKind.i64 b,(Th.ins (ot1S Z a b cl md (8:Nat)):Td)=Th.ins (ot1S Z a b cl md (8:Nat)),(Th.ext (Dk.flat (FL.rw 176 [false,false,false] Y)):Td)=Th.ext (Dk.flat (FL.rw 176 [false,false,false] Y)),Value.int IntKind.i64 (Int.ofNat 0)=Value.int IntKind.i64 (neS Y a b (ot1S Z a b cl md (8:Nat)) (0:Nat)).snd,Value.int IntKind.i64 (Int.ofNat 0)=Value.int IntKind.i64 (Int.ofNat (0:Nat)),(Th.ext (Dk.flat (FL.rw 178 [false,false,false,false] Z)):Td)=Th.ext (Dk.flat (FL.rw 178 [false,false,false,false] Z)),(Th.ext (Dk.flat (FL.rw 176 [false,false,false] (neS Y a b (ot1S Z a b cl md (8:Nat)) (ot1S Z a b cl md (8:Nat)).length).1)):Td)=Th.ext (Dk.flat (FL.rw 176 [false,false,false] (rnE Y Z a b cl md).1)),Value.int IntKind.i64 (neS Y a b (ot1S Z a b cl md (8:Nat)) (ot1S Z a b cl md (8:Nat)).length).snd=Value.int IntKind.i64 (rnE Y Z a b cl md).snd],by kernel_rfl,(by refine mcons ?_ (mcons ?_ (mcons ?_ (mcons ?_ (mcons ?_ (mcons ?_ (mcons ?_ (mcons ?_ (mcons ?_ (mcons ?_ (mcons ?_ mnil))))))))))<;>first|rfl|exact h0|exact h1|trivial|(exact h1))⟩
def C_rne:Ctr Td:=fun us sub=>match us,sub with
 |[.one (.ptr 0 0),.one (.ptr 1 0),.agg [.v (.int .i64 a),.v (.int .i64 b)],.one (.v (.int .i64 cl)),.one (.v (.int .i64 md))],[⟨.bx [.obj 2],true⟩,⟨.bx [.obj 3],true⟩,⟨.us (.ext (.flat (.rw 176 [false,false,false] Y))),true⟩,⟨.us (.ext (.flat (.rw 178 [false,false,false,false] Z))),true⟩]=>some ([Y.length≤9000,Z.length≤100000],.c (.one (.v (.int .i64 (rnE Y Z a b cl md).2))),[⟨.bx [.obj 4],true⟩,⟨.bx [.obj 3],true⟩,⟨.dead,true⟩,⟨.us (.ext (.flat (.rw 178 [false,false,false,false] Z))),true⟩,⟨.us (.ext (.flat (.rw 176 [false,false,false] (rnE Y Z a b cl md).1))),true⟩])
 |_,_=>none
theorem C_rne_ok:CtrOk Try.prog Id' 55 C_rne:=by
 intro us sub ps x sm h hp w e vs hM ha
 unfold C_rne at h
 split at h
 ·rename_i a b cl md Y Z
  simp only [Option.some.injEq,Prod.mk.injEq] at h
  obtain ⟨rfl,rfl,rfl⟩:=h
  have h0:=hp _ ((List.mem_cons_self ..))
  have h1:=hp _ (List.mem_cons_of_mem _ ((List.mem_cons_self ..)))
  exact ctr_way (I:=Id') (fun (W0:World) (G:Nat→Prop)=>SyOk.mk2 Try.mixed dkHo_ok (FnsR.cons (R_rwt) (FnsR.cons (R_ot1) (FnsR.nil))) EqsOk.nil) rfl Try.func55 (by kernel_rfl) (fun W0 G=>LpsOk.cons (by kernel_rfl) (rne_lp Y Z a b (ot1S Z a b cl md 8) h0 (ot1S_len Z a b cl md 8) _ rfl) (LpsOk.nil _)) (cs:=[]) (by kernel_rfl) (rne_w0 Y Z a b cl md h0 h1) w e vs hM ha
 ·cases h
theorem R_rne:RowOk Try.prog Id' hardD 55 (ctrF Id' C_rne hardD):=ctrF_ok Try.call55 C_rne_ok
theorem hitw_eq (Y:List Rw) (a b c i:Int):(a==(Y.getD i.toNat Rw.zero).is.getD 0 0&&(b==(Y.getD i.toNat Rw.zero).is.getD 1 0&&true)&&(c==(Y.getD i.toNat Rw.zero).is.getD 2 0&&true))=hitR Y a b c i:=by
 unfold hitR
 have h:∀ x y:Int,(x==y)=(y==x):=fun x y=>by
  cases h1:(x==y) with
  |true=>rw [eq_of_beq h1];exact (beq_self_eq_true y).symm
  |false=>exact ((beq_eq_false_iff_ne.2 fun e=>beq_eq_false_iff_ne.1 h1 e.symm)).symm
 rw [h a,h b,h c,Bool.and_true ((Y.getD i.toNat Rw.zero).is.getD 2 0==c)]
theorem hitw_no {Y:List Rw} {a b c i:Int} (h:atP Y a b c i=true):(a==(Y.getD i.toNat Rw.zero).is.getD 0 0&&(b==(Y.getD i.toNat Rw.zero).is.getD 1 0&&true)&&(c==(Y.getD i.toNat Rw.zero).is.getD 2 0&&true))=false:=by rw [hitw_eq,hit_no h]
theorem hitw_yes {Y:List Rw} {a b c i:Int} (h:atP Y a b c i=false):(a==(Y.getD i.toNat Rw.zero).is.getD 0 0&&(b==(Y.getD i.toNat Rw.zero).is.getD 1 0&&true)&&(c==(Y.getD i.toNat Rw.zero).is.getD 2 0&&true))=true:=by rw [hitw_eq,hit_yes h]
theorem six_n (Y:List Rw) (a b c:Int) (i i2:Int) (k:Nat) (f:Nat→Value) (h0:decide (i<(Y.length:Int))=true) (h1:IntKind.i64.wrap (i+1)=i2) (h2:0≤i∧i.toNat<Y.length) (h3:atP Y a b c (i)=true):∃ qs,alN Id' 2 [(8,.c (.one (.v (.int .i64 i2))))] [⟨.us (.ext (.flat (.rw 72 [false,false,false] Y))),false⟩,⟨.blk [.v (.int .i64 a),.v (.int .i64 b),.v (.int .i64 c)],true⟩] ((symC (⟨Try.prog,[],[E_of Try.prog 57,E_of Try.prog 72],dkHo,Id'.one,60⟩:Sy Td) [] 19 (hdC (loopsC (bodyOf Try.f152)) 0) ⟨[(8,.c (.one (.v (.int .i64 i))))]++anyB' (writesC (hdC (loopsC (bodyOf Try.f152)) 0)) ([(0,.c (.one (.obj 0))),(3,.c (.one (.ptr 1 0))),(7,.c (.one (.v (.int .i64 (Y.length:Int)))))]++tabV f 19),[⟨.us (.ext (.flat (.rw 72 [false,false,false] Y))),false⟩,⟨.blk [.v (.int .i64 a),.v (.int .i64 b),.v (.int .i64 c)],true⟩],0⟩).al [true,false])=some qs∧∀ q∈qs,q:=
 ⟨[decide (i<(↑Y.length:Int))=true,(0:Int)≤i∧i.toNat<(FL.rw 72 [false,false,false] Y).n,(a==(Y.getD i.toNat Rw.zero).is.getD (0:Nat) (0:Int)&&(b==(Y.getD i.toNat Rw.zero).is.getD ((0:Nat)+(1:Nat)) (0:Int)&&true)&&(c==(Y.getD i.toNat Rw.zero).is.getD ((0:Nat)+(1:Nat)+(1:Nat)) (0:Int)&&true))=false,(Th.ext (Dk.flat (FL.rw 72 [false,false,false] Y)):Td)=Th.ext (Dk.flat (FL.rw 72 [false,false,false] Y)),Value.int IntKind.i64 a=Value.int IntKind.i64 a,Value.int IntKind.i64 b=Value.int IntKind.i64 b,Value.int IntKind.i64 c=Value.int IntKind.i64 c,Value.int IntKind.i64 (IntKind.i64.wrap (i+(1:Int)))=Value.int IntKind.i64 i2],by kernel_rfl,(by refine mcons ?_ (mcons ?_ (mcons ?_ (mcons ?_ (mcons ?_ (mcons ?_ (mcons ?_ (mcons ?_ mnil)))))))<;>first|rfl|exact h0|exact h1|exact h2|exact h3|trivial|(exact congrArg _ h1)|(exact h2)|(exact hitw_no h3)|(exact hitw_yes h3))⟩
theorem six_x (Y:List Rw) (a b c:Int) (i i2:Int) (k:Nat) (f:Nat→Value) (h0:decide (i<(Y.length:Int))=false):∃ qs,alX Id' 2 0 [] [⟨.us (.ext (.flat (.rw 72 [false,false,false] Y))),false⟩,⟨.blk [.v (.int .i64 a),.v (.int .i64 b),.v (.int .i64 c)],true⟩] ((symC (⟨Try.prog,[],[E_of Try.prog 57,E_of Try.prog 72],dkHo,Id'.one,60⟩:Sy Td) [] 19 (hdC (loopsC (bodyOf Try.f152)) 0) ⟨[(8,.c (.one (.v (.int .i64 i))))]++anyB' (writesC (hdC (loopsC (bodyOf Try.f152)) 0)) ([(0,.c (.one (.obj 0))),(3,.c (.one (.ptr 1 0))),(7,.c (.one (.v (.int .i64 (Y.length:Int)))))]++tabV f 19),[⟨.us (.ext (.flat (.rw 72 [false,false,false] Y))),false⟩,⟨.blk [.v (.int .i64 a),.v (.int .i64 b),.v (.int .i64 c)],true⟩],0⟩).al [false])=some qs∧∀ q∈qs,q:=
 ⟨[decide (i<(↑Y.length:Int))=false,(Th.ext (Dk.flat (FL.rw 72 [false,false,false] Y)):Td)=Th.ext (Dk.flat (FL.rw 72 [false,false,false] Y)),Value.int IntKind.i64 a=Value.int IntKind.i64 a,Value.int IntKind.i64 b=Value.int IntKind.i64 b,Value.int IntKind.i64 c=Value.int IntKind.i64 c],by kernel_rfl,(by refine mcons ?_ (mcons ?_ (mcons ?_ (mcons ?_ (mcons ?_ mnil))))<;>first|rfl|exact h0|trivial|(exact congrArg _ h1)|(exact h2)|(exact hitw_no h3)|(exact hitw_yes h3))⟩
theorem six_lpA (Y:List Rw) (a b c:Int) (hL:Y.length≤100000)  (hall:∀ i:Int,0≤i→i.toNat<Y.length→atP Y a b c (i)=true) {W0:World} {G:Nat→Prop} (S0:Sy Td) (hS0:S0.P=Try.prog):LoopSound S0 Id' W0 G 19 (hdC (loopsC (bodyOf Try.f152)) 0) (lpG Id' 19 (hdC (loopsC (bodyOf Try.f152)) 0) 2 [(8,.c (.one (.v (.int .i64 ((0+0:Nat):Int)))))] [(0,.c (.one (.obj 0))),(3,.c (.one (.ptr 1 0))),(7,.c (.one (.v (.int .i64 (Y.length:Int)))))] [⟨.us (.ext (.flat (.rw 72 [false,false,false] Y))),false⟩,⟨.blk [.v (.int .i64 a),.v (.int .i64 b),.v (.int .i64 c)],true⟩] (.leaf (.exit 0) [] [⟨.us (.ext (.flat (.rw 72 [false,false,false] Y))),false⟩,⟨.blk [.v (.int .i64 a),.v (.int .i64 b),.v (.int .i64 c)],true⟩])):=by
 refine lp_sound (V:=fun k=>[(8,.c (.one (.v (.int .i64 ((k+0:Nat):Int)))))]) (M:=(fun k=>[⟨.us (.ext (.flat (.rw 72 [false,false,false] Y))),false⟩,⟨.blk [.v (.int .i64 a),.v (.int .i64 b),.v (.int .i64 c)],true⟩]:Nat→Mem Td)) (N:=Y.length) (Ux:=fun k x=>match x with|.exit 0=>some ([],([⟨.us (.ext (.flat (.rw 72 [false,false,false] Y))),false⟩,⟨.blk [.v (.int .i64 a),.v (.int .i64 b),.v (.int .i64 c)],true⟩]:Mem Td))|_=>none) (X:=fun _ _=>True) (J:=fun k=>True) (fun k=>by kernel_rfl) trivial (fun k hk hJ f=>?_) (fun K hK k x U hk hU hX=>?_)
 ·rw [hS0]
  cases hT:decide (((k+0:Nat):Int)<(Y.length:Int)) with
  |false=>
   exact rnd_xD (⟨Try.prog,[],[E_of Try.prog 57,E_of Try.prog 72],dkHo,Id'.one,60⟩:Sy Td) rfl ((fun (W0:World) (G:Nat→Prop)=>SyOk.mk2 Try.mixed dkHo_ok (FnsR.nil) (E_of_ok (by kernel_rfl) (E_of_ok (by kernel_rfl) (EqsOk.nil)))) W0 G) (six_x Y a b c ((k+0:Nat):Int) ((k+1+0:Nat):Int) k f hT) rfl trivial
  |true=>
   have hk1:=of_decide_eq_true hT
   have hW:IntKind.i64.wrap (((k+0:Nat):Int)+1)=((k+1+0:Nat):Int):=by rw [IntWalk.i64_in _ (by omega)];omega
   exact rnd_nD (⟨Try.prog,[],[E_of Try.prog 57,E_of Try.prog 72],dkHo,Id'.one,60⟩:Sy Td) rfl ((fun (W0:World) (G:Nat→Prop)=>SyOk.mk2 Try.mixed dkHo_ok (FnsR.nil) (E_of_ok (by kernel_rfl) (E_of_ok (by kernel_rfl) (EqsOk.nil)))) W0 G) (six_n Y a b c ((k+0:Nat):Int) ((k+1+0:Nat):Int) k f hT hW (by omega) (hall _ (by omega) (by omega)) ) rfl rfl (by omega) trivial
 ·revert hU
  match x with
  |.exit 0=>intro hU;simp only [Option.some.injEq] at hU;subst hU;exact hK
  |.normal=>intro hU;cases hU
  |.ret=>intro hU;cases hU
  |.exit (n+1)=>intro hU;cases hU
theorem six_r (Y:List Rw) (a b c:Int) (i i2:Int) (k:Nat) (f:Nat→Value) (h0:decide (i<(Y.length:Int))=true) (h1:i=i2) (h2:0≤i∧i.toNat<Y.length) (h3:atP Y a b c (i)=false):∃ qs,alR Id' 2 [(4,.c (.one (.v (.int .i64 i2))))] [⟨.us (.ext (.flat (.rw 72 [false,false,false] Y))),false⟩,⟨.blk [.v (.int .i64 a),.v (.int .i64 b),.v (.int .i64 c)],true⟩] ((symC (⟨Try.prog,[],[E_of Try.prog 57,E_of Try.prog 72],dkHo,Id'.one,60⟩:Sy Td) [] 19 (hdC (loopsC (bodyOf Try.f152)) 0) ⟨[(8,.c (.one (.v (.int .i64 i))))]++anyB' (writesC (hdC (loopsC (bodyOf Try.f152)) 0)) ([(0,.c (.one (.obj 0))),(3,.c (.one (.ptr 1 0))),(7,.c (.one (.v (.int .i64 (Y.length:Int)))))]++tabV f 19),[⟨.us (.ext (.flat (.rw 72 [false,false,false] Y))),false⟩,⟨.blk [.v (.int .i64 a),.v (.int .i64 b),.v (.int .i64 c)],true⟩],0⟩).al [true,true])=some qs∧∀ q∈qs,q:=
 ⟨[decide (i<(↑Y.length:Int))=true,(0:Int)≤i∧i.toNat<(FL.rw 72 [false,false,false] Y).n,(a==(Y.getD i.toNat Rw.zero).is.getD (0:Nat) (0:Int)&&(b==(Y.getD i.toNat Rw.zero).is.getD ((0:Nat)+(1:Nat)) (0:Int)&&true)&&(c==(Y.getD i.toNat Rw.zero).is.getD ((0:Nat)+(1:Nat)+(1:Nat)) (0:Int)&&true))=true,(Th.ext (Dk.flat (FL.rw 72 [false,false,false] Y)):Td)=Th.ext (Dk.flat (FL.rw 72 [false,false,false] Y)),Value.int IntKind.i64 a=Value.int IntKind.i64 a,Value.int IntKind.i64 b=Value.int IntKind.i64 b,Value.int IntKind.i64 c=Value.int IntKind.i64 c,Value.int IntKind.i64 i=Value.int IntKind.i64 i2],by kernel_rfl,(by refine mcons ?_ (mcons ?_ (mcons ?_ (mcons ?_ (mcons ?_ (mcons ?_ (mcons ?_ (mcons ?_ mnil)))))))<;>first|rfl|exact h0|exact h1|exact h2|exact h3|trivial|(exact congrArg _ h1)|(exact h2)|(exact hitw_no h3)|(exact hitw_yes h3))⟩
theorem six_lpR (Y:List Rw) (a b c:Int) (e:Int) (hL:Y.length≤100000)  (he0:0≤e∧e.toNat<Y.length) (he1:atP Y a b c (e)=false) (he2:∀ i:Int,0≤i→i<e→atP Y a b c (i)=true) {W0:World} {G:Nat→Prop} (S0:Sy Td) (hS0:S0.P=Try.prog):LoopSound S0 Id' W0 G 19 (hdC (loopsC (bodyOf Try.f152)) 0) (lpG Id' 19 (hdC (loopsC (bodyOf Try.f152)) 0) 2 [(8,.c (.one (.v (.int .i64 ((0+0:Nat):Int)))))] [(0,.c (.one (.obj 0))),(3,.c (.one (.ptr 1 0))),(7,.c (.one (.v (.int .i64 (Y.length:Int)))))] [⟨.us (.ext (.flat (.rw 72 [false,false,false] Y))),false⟩,⟨.blk [.v (.int .i64 a),.v (.int .i64 b),.v (.int .i64 c)],true⟩] (.leaf .ret [(4,.c (.one (.v (.int .i64 e))))] [⟨.us (.ext (.flat (.rw 72 [false,false,false] Y))),false⟩,⟨.blk [.v (.int .i64 a),.v (.int .i64 b),.v (.int .i64 c)],true⟩])):=by
 refine lp_sound (V:=fun k=>[(8,.c (.one (.v (.int .i64 ((k+0:Nat):Int)))))]) (M:=(fun k=>[⟨.us (.ext (.flat (.rw 72 [false,false,false] Y))),false⟩,⟨.blk [.v (.int .i64 a),.v (.int .i64 b),.v (.int .i64 c)],true⟩]:Nat→Mem Td)) (N:=Y.length) (Ux:=fun k x=>match x with|.ret=>some ([(4,.c (.one (.v (.int .i64 e))))],([⟨.us (.ext (.flat (.rw 72 [false,false,false] Y))),false⟩,⟨.blk [.v (.int .i64 a),.v (.int .i64 b),.v (.int .i64 c)],true⟩]:Mem Td))|_=>none) (X:=fun _ _=>True) (J:=fun k=>((k+0:Nat):Int)≤e) (fun k=>by kernel_rfl) (by omega) (fun k hk hJ f=>?_) (fun K hK k x U hk hU hX=>?_)
 ·rw [hS0]
  cases hT:decide (((k+0:Nat):Int)<(Y.length:Int)) with
  |false=>
   have:=of_decide_eq_false hT
   omega
  |true=>
   have hk1:=of_decide_eq_true hT
   have hW:IntKind.i64.wrap (((k+0:Nat):Int)+1)=((k+1+0:Nat):Int):=by rw [IntWalk.i64_in _ (by omega)];omega
   cases hq:atP Y a b c (((k+0:Nat):Int)) with
   |true=>
    exact rnd_nD (⟨Try.prog,[],[E_of Try.prog 57,E_of Try.prog 72],dkHo,Id'.one,60⟩:Sy Td) rfl ((fun (W0:World) (G:Nat→Prop)=>SyOk.mk2 Try.mixed dkHo_ok (FnsR.nil) (E_of_ok (by kernel_rfl) (E_of_ok (by kernel_rfl) (EqsOk.nil)))) W0 G) (six_n Y a b c ((k+0:Nat):Int) ((k+1+0:Nat):Int) k f hT hW (by omega) hq ) rfl rfl (by omega) (by
     rcases Int.lt_or_eq_of_le hJ with h|h
     ·omega
     ·rw [h,he1] at hq;cases hq)
   |false=>
    have hie:((k+0:Nat):Int)=e:=by
     rcases Int.lt_or_eq_of_le hJ with h|h
     ·rw [he2 _ (by omega) h] at hq;cases hq
     ·exact h
    exact rnd_rD (⟨Try.prog,[],[E_of Try.prog 57,E_of Try.prog 72],dkHo,Id'.one,60⟩:Sy Td) rfl ((fun (W0:World) (G:Nat→Prop)=>SyOk.mk2 Try.mixed dkHo_ok (FnsR.nil) (E_of_ok (by kernel_rfl) (E_of_ok (by kernel_rfl) (EqsOk.nil)))) W0 G) (six_r Y a b c ((k+0:Nat):Int) e k f hT hie (by omega) hq ) rfl trivial
 ·revert hU
  match x with
  |.ret=>intro hU;simp only [Option.some.injEq] at hU;subst hU;exact hK
  |.normal=>intro hU;cases hU
  |.exit n=>intro hU;cases hU
theorem sixA_w0 (Y:List Rw) (a b c:Int) :∃ qs,wayV ((runFn (⟨Try.prog,[],[E_of Try.prog 57,E_of Try.prog 72],dkHo,Id'.one,60⟩:Sy Td) [(2,(lpG Id' 19 (hdC (loopsC (bodyOf Try.f152)) 0) 2 [(8,.c (.one (.v (.int .i64 ((0+0:Nat):Int)))))] [(0,.c (.one (.obj 0))),(3,.c (.one (.ptr 1 0))),(7,.c (.one (.v (.int .i64 (Y.length:Int)))))] [⟨.us (.ext (.flat (.rw 72 [false,false,false] Y))),false⟩,⟨.blk [.v (.int .i64 a),.v (.int .i64 b),.v (.int .i64 c)],true⟩] (.leaf (.exit 0) [] [⟨.us (.ext (.flat (.rw 72 [false,false,false] Y))),false⟩,⟨.blk [.v (.int .i64 a),.v (.int .i64 b),.v (.int .i64 c)],true⟩])))] Try.f152 [.one (.obj 0),.agg [.v (.int .i64 a),.v (.int .i64 b),.v (.int .i64 c)]] (roM [⟨.us (.ext (.flat (.rw 72 [false,false,false] Y))),true⟩])).al []) (fun u=>u=.int .i64 (-1))=some qs∧∀ q∈qs,q:=
 ⟨[Value.int IntKind.i64 (Int.negSucc 0)=Value.int IntKind.i64 (Int.negSucc 0),Value.int IntKind.i64 (↑(FL.rw 72 [false,false,false] Y).n:Int)=Value.int IntKind.i64 (↑Y.length:Int),(Th.ext (Dk.flat (FL.rw 72 [false,false,false] Y)):Td)=Th.ext (Dk.flat (FL.rw 72 [false,false,false] Y)),Value.int IntKind.i64 a=Value.int IntKind.i64 a,Value.int IntKind.i64 b=Value.int IntKind.i64 b,Value.int IntKind.i64 c=Value.int IntKind.i64 c,Value.int IntKind.i64 (Int.ofNat 0)=Value.int IntKind.i64 (Int.ofNat ((0:Nat)+(0:Nat)))],by kernel_rfl,(by refine mcons ?_ (mcons ?_ (mcons ?_ (mcons ?_ (mcons ?_ (mcons ?_ (mcons ?_ mnil))))))<;>first|rfl|trivial)⟩
theorem sixR_w0 (Y:List Rw) (a b c:Int) (e:Int) :∃ qs,wayV ((runFn (⟨Try.prog,[],[E_of Try.prog 57,E_of Try.prog 72],dkHo,Id'.one,60⟩:Sy Td) [(2,(lpG Id' 19 (hdC (loopsC (bodyOf Try.f152)) 0) 2 [(8,.c (.one (.v (.int .i64 ((0+0:Nat):Int)))))] [(0,.c (.one (.obj 0))),(3,.c (.one (.ptr 1 0))),(7,.c (.one (.v (.int .i64 (Y.length:Int)))))] [⟨.us (.ext (.flat (.rw 72 [false,false,false] Y))),false⟩,⟨.blk [.v (.int .i64 a),.v (.int .i64 b),.v (.int .i64 c)],true⟩] (.leaf .ret [(4,.c (.one (.v (.int .i64 e))))] [⟨.us (.ext (.flat (.rw 72 [false,false,false] Y))),false⟩,⟨.blk [.v (.int .i64 a),.v (.int .i64 b),.v (.int .i64 c)],true⟩])))] Try.f152 [.one (.obj 0),.agg [.v (.int .i64 a),.v (.int .i64 b),.v (.int .i64 c)]] (roM [⟨.us (.ext (.flat (.rw 72 [false,false,false] Y))),true⟩])).al []) (fun u=>u=.int .i64 e)=some qs∧∀ q∈qs,q:=
 ⟨[Value.int IntKind.i64 e=Value.int IntKind.i64 e,Value.int IntKind.i64 (↑(FL.rw 72 [false,false,false] Y).n:Int)=Value.int IntKind.i64 (↑Y.length:Int),(Th.ext (Dk.flat (FL.rw 72 [false,false,false] Y)):Td)=Th.ext (Dk.flat (FL.rw 72 [false,false,false] Y)),Value.int IntKind.i64 a=Value.int IntKind.i64 a,Value.int IntKind.i64 b=Value.int IntKind.i64 b,Value.int IntKind.i64 c=Value.int IntKind.i64 c,Value.int IntKind.i64 (Int.ofNat 0)=Value.int IntKind.i64 (Int.ofNat ((0:Nat)+(0:Nat)))],by kernel_rfl,(by refine mcons ?_ (mcons ?_ (mcons ?_ (mcons ?_ (mcons ?_ (mcons ?_ (mcons ?_ mnil))))))<;>first|rfl|trivial)⟩
def C_six:CtrV Td:=fun us sub=>match us,sub with
 |[.one (.obj 0),.agg [.v (.int .i64 a),.v (.int .i64 b),.v (.int .i64 c)]],[⟨.us (.ext (.flat (.rw 72 [false,false,false] Y))),false⟩]=>some ([Y.length≤100000],.int .i64 (atE Y a b c))
 |_,_=>none
theorem C_six_ok:CtrVOk Try.prog Id' 152 C_six:=by
 intro us sub ps x h hp w e vs hM ha
 unfold C_six at h
 split at h
 ·rename_i a b c Y
  simp only [Option.some.injEq,Prod.mk.injEq] at h
  obtain ⟨rfl,rfl⟩:=h
  have hL:Y.length≤100000:=hp _ (List.mem_cons_self ..)
  rcases fst_cases Y.length (atP Y a b c) with ⟨hv,hall⟩|⟨h1,h2,h3,h4⟩
  ·unfold atE
   rw [hv]
   exact ctrv_way (I:=Id') (fun (W0:World) (G:Nat→Prop)=>SyOk.mk2 Try.mixed dkHo_ok (FnsR.nil) (E_of_ok (by kernel_rfl) (E_of_ok (by kernel_rfl) (EqsOk.nil)))) rfl Try.func152 (by kernel_rfl) (fun W0 G=>LpsOk.cons (by kernel_rfl) (six_lpA Y a b c hL hall _ rfl) (LpsOk.nil _)) (cs:=[]) (by kernel_rfl) (sixA_w0 Y a b c ) w e vs hM ha
  ·exact ctrv_way (I:=Id') (fun (W0:World) (G:Nat→Prop)=>SyOk.mk2 Try.mixed dkHo_ok (FnsR.nil) (E_of_ok (by kernel_rfl) (E_of_ok (by kernel_rfl) (EqsOk.nil)))) rfl Try.func152 (by kernel_rfl) (fun W0 G=>LpsOk.cons (by kernel_rfl) (six_lpR Y a b c _ hL ⟨h1,h2⟩ h3 h4 _ rfl) (LpsOk.nil _)) (cs:=[]) (by kernel_rfl) (sixR_w0 Y a b c _ ) w e vs hM ha
 ·cases h
theorem R_six:RowOk Try.prog Id' hardD 152 (ctrV C_six hardD):=ctrV_ok Try.call152 C_six_ok
theorem sct_ge (Y:List Rw) (a b c:Int):decide (atE Y a b c≥0)=hsE Y a b c:=by
 unfold hsE atE
 rcases fst_cases Y.length (atP Y a b c) with ⟨hv,_⟩|⟨h1,_,_,_⟩
 ·rw [hv];rfl
 ·rw [beq_eq_false_iff_ne.2 (by omega:fstI Y.length (atP Y a b c)≠-1),decide_eq_true (by omega:fstI Y.length (atP Y a b c)≥0)];rfl
theorem sct_w0 (Y:List Rw) (a b c:Int) (h0:Y.length≤100000):∃ qs,wayV ((runFn (⟨Try.prog,[(152,ctrV C_six hardD)],[E_of Try.prog 57,E_of Try.prog 72],dkHo,Id'.one,60⟩:Sy Td) [] Try.f106 [.one (.obj 0),.agg [.v (.int .i64 a),.v (.int .i64 b),.v (.int .i64 c)]] (roM [⟨.us (.ext (.flat (.rw 72 [false,false,false] Y))),true⟩])).al []) (fun u=>u=.bool (hsE Y a b c))=some qs∧∀ q∈qs,q:=
 ⟨[Value.bool (decide (atE Y a b c≥(0:Int)))=Value.bool (hsE Y a b c),Y.length≤(100000:Nat)],by kernel_rfl,(by refine mcons ?_ (mcons ?_ mnil)<;>first|rfl|exact h0|trivial|(exact h0)|(exact congrArg Value.bool (sct_ge Y a b c)))⟩
def C_sct:CtrV Td:=fun us sub=>match us,sub with
 |[.one (.obj 0),.agg [.v (.int .i64 a),.v (.int .i64 b),.v (.int .i64 c)]],[⟨.us (.ext (.flat (.rw 72 [false,false,false] Y))),false⟩]=>some ([Y.length≤100000],.bool (hsE Y a b c))
 |_,_=>none
theorem C_sct_ok:CtrVOk Try.prog Id' 106 C_sct:=by
 intro us sub ps x h hp w e vs hM ha
 unfold C_sct at h
 split at h
 ·rename_i a b c Y
  simp only [Option.some.injEq,Prod.mk.injEq] at h
  obtain ⟨rfl,rfl⟩:=h
  have hL:Y.length≤100000:=hp _ (List.mem_cons_self ..)
  exact ctrv_way (I:=Id') (fun (W0:World) (G:Nat→Prop)=>SyOk.mk2 Try.mixed dkHo_ok (FnsR.cons (R_six) (FnsR.nil)) (E_of_ok (by kernel_rfl) (E_of_ok (by kernel_rfl) (EqsOk.nil)))) rfl Try.func106 (by kernel_rfl) (fun W0 G=>LpsOk.nil _) (cs:=[]) (by kernel_rfl) (sct_w0 Y a b c hL) w e vs hM ha
 ·cases h
theorem R_sct:RowOk Try.prog Id' hardD 106 (ctrV C_sct hardD):=ctrV_ok Try.call106 C_sct_ok
theorem phs_w0 (Y:List Rw) (a b c:Int) (h0:Y.length≤100000):∃ qs,wayV ((runFn (⟨Try.prog,[(106,ctrV C_sct hardD)],[E_of Try.prog 57,E_of Try.prog 72],dkHo,Id'.one,60⟩:Sy Td) [] Try.f42 [.one (.ptr 0 0),.agg [.v (.int .i64 a),.v (.int .i64 b)],.one (.v (.int .i64 c))] (roM [⟨.bx [.obj 1],true⟩,⟨.us (.ext (.flat (.rw 72 [false,false,false] Y))),true⟩])).al []) (fun u=>u=.bool (hsE Y a b c))=some qs∧∀ q∈qs,q:=
 ⟨[Value.bool (hsE Y a b c)=Value.bool (hsE Y a b c),Y.length≤(100000:Nat)],by kernel_rfl,(by refine mcons ?_ (mcons ?_ mnil)<;>first|rfl|exact h0|trivial|(exact h0))⟩
def C_phs:CtrV Td:=fun us sub=>match us,sub with
 |[.one (.ptr 0 0),.agg [.v (.int .i64 a),.v (.int .i64 b)],.one (.v (.int .i64 c))],[⟨.bx [.obj 1],false⟩,⟨.us (.ext (.flat (.rw 72 [false,false,false] Y))),false⟩]=>some ([Y.length≤100000],.bool (hsE Y a b c))
 |_,_=>none
theorem C_phs_ok:CtrVOk Try.prog Id' 42 C_phs:=by
 intro us sub ps x h hp w e vs hM ha
 unfold C_phs at h
 split at h
 ·rename_i a b c Y
  simp only [Option.some.injEq,Prod.mk.injEq] at h
  obtain ⟨rfl,rfl⟩:=h
  have hL:Y.length≤100000:=hp _ (List.mem_cons_self ..)
  exact ctrv_way (I:=Id') (fun (W0:World) (G:Nat→Prop)=>SyOk.mk2 Try.mixed dkHo_ok (FnsR.cons (R_sct) (FnsR.nil)) (E_of_ok (by kernel_rfl) (E_of_ok (by kernel_rfl) (EqsOk.nil)))) rfl Try.func42 (by kernel_rfl) (fun W0 G=>LpsOk.nil _) (cs:=[]) (by kernel_rfl) (phs_w0 Y a b c hL) w e vs hM ha
 ·cases h
theorem R_phs:RowOk Try.prog Id' hardD 42 (ctrV C_phs hardD):=ctrV_ok Try.call42 C_phs_ok
theorem pwt_w0 (Y:List Rw) (a b c:Int) (h0:(decide (c<0)||decide (c≥8))=true) (h1:(decide (c<0)||decide (c>7))=true):∃ qs,wayO Id' ([⟨.bx [.obj 1],true⟩,⟨.us (.ext (.flat (.rw 72 [false,false,false] Y))),true⟩]:Mem Td).length [⟨.bx [.obj 2],true⟩,⟨.dead,true⟩,⟨.us (.ext (.flat (.rw 72 [false,false,false] (wtT Y a b c)))),true⟩] (.c (.one (.v (.int .i64 (wtE Y a b c))))) ((runFn (⟨Try.prog,[(42,ctrV C_phs hardD)],[E_of Try.prog 57,E_of Try.prog 72],dkHo,Id'.one,60⟩:Sy Td) [] Try.f35 [.one (.ptr 0 0),.agg [.v (.int .i64 a),.v (.int .i64 b)],.one (.v (.int .i64 c))] [⟨.bx [.obj 1],true⟩,⟨.us (.ext (.flat (.rw 72 [false,false,false] Y))),true⟩]).al [true])=some qs∧∀ q∈qs,q:=
 ⟨[(decide (c<(0:Int))||decide (c≥(8:Int)))=true,(Th.ext (Dk.flat (FL.rw 72 [false,false,false] Y)):Td)=Th.ext (Dk.flat (FL.rw 72 [false,false,false] (wtT Y a b c))),Value.int IntKind.i64 (Int.ofNat 2)=Value.int IntKind.i64 (wtE Y a b c)],by kernel_rfl,(by refine mcons ?_ (mcons ?_ (mcons ?_ mnil))<;>first|rfl|exact h0|exact h1|trivial|(exact congrArg (fun x=>(Th.ext (Dk.flat (FL.rw 72 [false,false,false] x)):Td)) (show _=wtT Y a b c by rw [wtT,h1,h2];rfl))|(exact congrArg (fun x=>(Th.ext (Dk.flat (FL.rw 72 [false,false,false] x)):Td)) (show _=wtT Y a b c by rw [wtT,h1];rfl))|(exact congrArg (Value.int .i64) (show _=wtE Y a b c by rw [wtE,h1,h2];rfl))|(exact congrArg (Value.int .i64) (show _=wtE Y a b c by rw [wtE,h1];rfl))|(exact Nat.le_trans h3 (by decide))|(show Y.length+1≤100000;omega))⟩
theorem pwt_w1 (Y:List Rw) (a b c:Int) (h0:(decide (c<0)||decide (c≥8))=false) (h1:(decide (c<0)||decide (c>7))=false) (h2:hsE Y a b c=true) (h3:Y.length≤10000):∃ qs,wayO Id' ([⟨.bx [.obj 1],true⟩,⟨.us (.ext (.flat (.rw 72 [false,false,false] Y))),true⟩]:Mem Td).length [⟨.bx [.obj 2],true⟩,⟨.dead,true⟩,⟨.us (.ext (.flat (.rw 72 [false,false,false] (wtT Y a b c)))),true⟩] (.c (.one (.v (.int .i64 (wtE Y a b c))))) ((runFn (⟨Try.prog,[(42,ctrV C_phs hardD)],[E_of Try.prog 57,E_of Try.prog 72],dkHo,Id'.one,60⟩:Sy Td) [] Try.f35 [.one (.ptr 0 0),.agg [.v (.int .i64 a),.v (.int .i64 b)],.one (.v (.int .i64 c))] [⟨.bx [.obj 1],true⟩,⟨.us (.ext (.flat (.rw 72 [false,false,false] Y))),true⟩]).al [false,true])=some qs∧∀ q∈qs,q:=
 ⟨[(decide (c<(0:Int))||decide (c≥(8:Int)))=false,Y.length≤(100000:Nat),hsE Y a b c=true,(Th.ext (Dk.flat (FL.rw 72 [false,false,false] Y)):Td)=Th.ext (Dk.flat (FL.rw 72 [false,false,false] (wtT Y a b c))),Value.int IntKind.i64 (Int.ofNat 10)=Value.int IntKind.i64 (wtE Y a b c)],by kernel_rfl,(by refine mcons ?_ (mcons ?_ (mcons ?_ (mcons ?_ (mcons ?_ mnil))))<;>first|rfl|exact h0|exact h1|exact h2|exact h3|trivial|(exact congrArg (fun x=>(Th.ext (Dk.flat (FL.rw 72 [false,false,false] x)):Td)) (show _=wtT Y a b c by rw [wtT,h1,h2];rfl))|(exact congrArg (fun x=>(Th.ext (Dk.flat (FL.rw 72 [false,false,false] x)):Td)) (show _=wtT Y a b c by rw [wtT,h1];rfl))|(exact congrArg (Value.int .i64) (show _=wtE Y a b c by rw [wtE,h1,h2];rfl))|(exact congrArg (Value.int .i64) (show _=wtE Y a b c by rw [wtE,h1];rfl))|(exact Nat.le_trans h3 (by decide))|(show Y.length+1≤100000;omega))⟩
theorem pwt_w2 (Y:List Rw) (a b c:Int) (h0:(decide (c<0)||decide (c≥8))=false) (h1:(decide (c<0)||decide (c>7))=false) (h2:hsE Y a b c=false) (h3:Y.length≤10000):∃ qs,wayO Id' ([⟨.bx [.obj 1],true⟩,⟨.us (.ext (.flat (.rw 72 [false,false,false] Y))),true⟩]:Mem Td).length [⟨.bx [.obj 2],true⟩,⟨.dead,true⟩,⟨.us (.ext (.flat (.rw 72 [false,false,false] (wtT Y a b c)))),true⟩] (.c (.one (.v (.int .i64 (wtE Y a b c))))) ((runFn (⟨Try.prog,[(42,ctrV C_phs hardD)],[E_of Try.prog 57,E_of Try.prog 72],dkHo,Id'.one,60⟩:Sy Td) [] Try.f35 [.one (.ptr 0 0),.agg [.v (.int .i64 a),.v (.int .i64 b)],.one (.v (.int .i64 c))] [⟨.bx [.obj 1],true⟩,⟨.us (.ext (.flat (.rw 72 [false,false,false] Y))),true⟩]).al [false,false])=some qs∧∀ q∈qs,q:=
 ⟨[(decide (c<(0:Int))||decide (c≥(8:Int)))=false,Y.length≤(100000:Nat),hsE Y a b c=false,Y.length+[Rw.mk [a,b,c] []].length≤(100000:Nat),(Th.ext (Dk.flat (FL.rw 72 [false,false,false] (Y++[⟨[a,b,c],[]⟩]))):Td)=Th.ext (Dk.flat (FL.rw 72 [false,false,false] (wtT Y a b c))),Value.int IntKind.i64 (Int.ofNat 0)=Value.int IntKind.i64 (wtE Y a b c)],by kernel_rfl,(by refine mcons ?_ (mcons ?_ (mcons ?_ (mcons ?_ (mcons ?_ (mcons ?_ mnil)))))<;>first|rfl|exact h0|exact h1|exact h2|exact h3|trivial|(exact congrArg (fun x=>(Th.ext (Dk.flat (FL.rw 72 [false,false,false] x)):Td)) (show _=wtT Y a b c by rw [wtT,h1,h2];rfl))|(exact congrArg (fun x=>(Th.ext (Dk.flat (FL.rw 72 [false,false,false] x)):Td)) (show _=wtT Y a b c by rw [wtT,h1];rfl))|(exact congrArg (Value.int .i64) (show _=wtE Y a b c by rw [wtE,h1,h2];rfl))|(exact congrArg (Value.int .i64) (show _=wtE Y a b c by rw [wtE,h1];rfl))|(exact Nat.le_trans h3 (by decide))|(show Y.length+1≤100000;omega))⟩
theorem bad_eq (c:Int):(decide (c<0)||decide (c>7))=(decide (c<0)||decide (c≥8)):=by
 rw [show decide (c>7)=decide (c≥8) from decide_eq_decide.2 ⟨by omega,by omega⟩]
def C_pwt:Ctr Td:=fun us sub=>match us,sub with
 |[.one (.ptr 0 0),.agg [.v (.int .i64 a),.v (.int .i64 b)],.one (.v (.int .i64 c))],[⟨.bx [.obj 1],true⟩,⟨.us (.ext (.flat (.rw 72 [false,false,false] Y))),true⟩]=>some ([Y.length≤10000],.c (.one (.v (.int .i64 (wtE Y a b c)))),[⟨.bx [.obj 2],true⟩,⟨.dead,true⟩,⟨.us (.ext (.flat (.rw 72 [false,false,false] (wtT Y a b c)))),true⟩])
 |_,_=>none
theorem C_pwt_ok:CtrOk Try.prog Id' 35 C_pwt:=by
 intro us sub ps x sm h hp w e vs hM ha
 unfold C_pwt at h
 split at h
 ·rename_i a b c Y
  simp only [Option.some.injEq,Prod.mk.injEq] at h
  obtain ⟨rfl,rfl,rfl⟩:=h
  have hL:Y.length≤10000:=hp _ (List.mem_cons_self ..)
  cases h0:(decide (c<0)||decide (c≥8)) with
  |true=>exact ctr_way (I:=Id') (fun (W0:World) (G:Nat→Prop)=>SyOk.mk2 Try.mixed dkHo_ok (FnsR.cons (R_phs) (FnsR.nil)) (E_of_ok (by kernel_rfl) (E_of_ok (by kernel_rfl) (EqsOk.nil)))) rfl Try.func35 (by kernel_rfl) (fun W0 G=>LpsOk.nil _) (cs:=[true]) (by kernel_rfl) (pwt_w0 Y a b c h0 ((bad_eq c).trans h0)) w e vs hM ha
  |false=>
   cases h1:hsE Y a b c with
   |true=>exact ctr_way (I:=Id') (fun (W0:World) (G:Nat→Prop)=>SyOk.mk2 Try.mixed dkHo_ok (FnsR.cons (R_phs) (FnsR.nil)) (E_of_ok (by kernel_rfl) (E_of_ok (by kernel_rfl) (EqsOk.nil)))) rfl Try.func35 (by kernel_rfl) (fun W0 G=>LpsOk.nil _) (cs:=[false,true]) (by kernel_rfl) (pwt_w1 Y a b c h0 ((bad_eq c).trans h0) h1 hL) w e vs hM ha
   |false=>exact ctr_way (I:=Id') (fun (W0:World) (G:Nat→Prop)=>SyOk.mk2 Try.mixed dkHo_ok (FnsR.cons (R_phs) (FnsR.nil)) (E_of_ok (by kernel_rfl) (E_of_ok (by kernel_rfl) (EqsOk.nil)))) rfl Try.func35 (by kernel_rfl) (fun W0 G=>LpsOk.nil _) (cs:=[false,false]) (by kernel_rfl) (pwt_w2 Y a b c h0 ((bad_eq c).trans h0) h1 hL) w e vs hM ha
 ·cases h
theorem R_pwt:RowOk Try.prog Id' hardD 35 (ctrF Id' C_pwt hardD):=ctrF_ok Try.call35 C_pwt_ok
set_option maxHeartbeats 1000000 in
theorem cloneW_c (v:Value) (n:Nat) (xs:List Value) (w:World) (h:Rs w 3 v n xs) (h1:∀ u∈xs,u.oneCell'=true) (hl:n≤100000):
  Calls Try.prog 102 #[v] w fun e w'=>∃ v',e=.returned v'∧Ext w w'∧w'.ownsRow w.heap.size 72 3 v' n xs:=by
 have h0:=h
 obtain ⟨ao,cap,rfl,ca1,ca2,ca3,ca0,hca⟩:=h0.open
 clear h0 hca
 have H:=Lib.hid h;clear h
 have H1:=Lib.hid h1;clear h1
 cases ao with
 |none=>
  have hc:=ca3 rfl
  subst hc
  have hn:n=0:=by omega
  subst hn
  have hx:xs=[]:=List.eq_nil_of_length_eq_zero (by omega)
  subst hx
  clear ca0 ca1 ca2 ca3
  have hnil:∀ w,(binOp .eql 66 (.slice none 0 0) (.slice none 0 0)).run Try.prog w=.ok (.bool true) w:=fun w=>Lib.run_eql_slice_nil w 66 72 none 0 0 0 0 Try.underlying66
  go_enter Try.func102,Try.ntmps102
  go_wp2
  go_ret
  exact ⟨_,rfl,Ext.refl w,World.ownsRow_nil _ _ _ _⟩
 |some a=>
  clear ca3
  have etE:ElemT Try.prog 66 72 3 24:=ElemT.mk' Try.underlying66 (z:=.agg #[.int .i64 0,.int .i64 0,.int .i64 0]) (by kernel_rfl) (by kernel_rfl) (by decide)
  have HE:=Lib.hid etE;clear etE
  have hnil:∀ w,(binOp .eql 66 (.slice (some a) n cap) (.slice none 0 0)).run Try.prog w=.ok (.bool false) w:=fun w=>Lib.run_eql_slice_nil w 66 72 (some a) n cap 0 0 Try.underlying66
  go_enter Try.func102,Try.ntmps102
  go_wp2_with (first|(at_builtin;go_loud (refine wpList_app rfl (.tmp 5) (.tmp 6) 66 rfl HE.out w.heap.size rfl (owns_lit (n:=0) (size:=3) (cs:=#[]) rfl (Nat.le_refl _) (by decide)) rfl (by have:=H.out.ext ((Ext.refl w).alloc (.cells #[] 72));exact this) H1.out (by omega) (by omega) (by simp) ?_);intro v' w1 hown hgr _)|fail)
  rw [Nat.zero_add] at hown
  obtain ⟨ao,cap',rfl⟩:=owns_shape hown
  go_ret
  exact ⟨_,rfl,((Ext.refl w).alloc _).grown hgr (fun k hk=>by cases hk;exact Nat.le_refl _),by simpa using hown⟩
def C_clW:Ctr Td:=fun us sub=>match us,sub with
 |[.one (.obj 0)],[⟨.us (.ext (.vw [false,false,false] R)),false⟩]=>some ([R.length≤100000],.c (.one (.obj 1)),[⟨.us (.ext (.vw [false,false,false] R)),false⟩,⟨.us (.ext (.flat (.rw 72 [false,false,false] R))),true⟩])
 |_,_=>none
theorem C_clW_ok:CtrOk Try.prog Id' 102 C_clW:=by
 intro us sub ps x sm h hp w e vs hM ha
 unfold C_clW at h
 split at h
 ·rename_i R
  simp only [Option.some.injEq,Prod.mk.injEq] at h
  obtain ⟨rfl,rfl,rfl⟩:=h
  have hL:R.length≤100000:=hp _ (List.mem_cons_self ..)
  obtain ⟨u0,rfl,a0⟩:=allC1 ha
  have hE:e[0]? =some u0:=is_one a0
  obtain ⟨k0,hR⟩:=hM.holds 0 _ _ hE rfl
  refine (cloneW_c u0 R.length (R.map (rwV [false,false,false])).flatten w hR rows_ones hL).mono fun y w' ⟨v,g1,g2,g3⟩=>⟨v,e++[v],g1,Grows.push e v,?_,?_⟩
  ·show (e++[v])[1]? =some v
   have:=hM.len
   rw [List.getElem?_append_right (by rw [this];exact Nat.le_refl _),this];rfl
  ·refine hM.push g2 v ⟨.us (.ext (.flat (.rw 72 [false,false,false] R))),true⟩ ⟨fun r hr=>?_,w.heap.size,g2.size,by rw [FL.len];exact g3⟩ fun k hk=>?_
   ·obtain ⟨y,_,rfl⟩:=List.mem_map.1 hr
    exact rwV_len _ y
   ·exact owns_block g3 hk
 ·cases h
theorem RW_clW:RowOk Try.prog Id' hardD 102 (ctrF Id' (wkC C_clW) hardD):=ctrF_ok Try.call102 (wkC_ok C_clW_ok)
theorem pal_w0 (Y:List Rw) (h0:Y.length≤100000):∃ qs,wayO Id' ([⟨.bx [.obj 1],true⟩,⟨.us (.ext (.flat (.rw 72 [false,false,false] Y))),true⟩]:Mem Td).length [⟨.bx [.obj 1],true⟩,⟨.us (.ext (.flat (.rw 72 [false,false,false] Y))),true⟩,⟨.us (.ext (.flat (.rw 72 [false,false,false] Y))),true⟩] (.c (.one (.obj 2))) ((runFn (⟨Try.prog,[(102,ctrF Id' (wkC C_clW) hardD)],[],dkHo,Id'.one,60⟩:Sy Td) [] Try.f38 [.one (.ptr 0 0)] [⟨.bx [.obj 1],true⟩,⟨.us (.ext (.flat (.rw 72 [false,false,false] Y))),true⟩]).al [])=some qs∧∀ q∈qs,q:=
 ⟨[Y.length≤(100000:Nat),(Th.ext (Dk.flat (FL.rw 72 [false,false,false] Y)):Td)=Th.ext (Dk.flat (FL.rw 72 [false,false,false] Y)),(Th.ext (Dk.flat (FL.rw 72 [false,false,false] Y)):Td)=Th.ext (Dk.flat (FL.rw 72 [false,false,false] Y))],by kernel_rfl,(by refine mcons ?_ (mcons ?_ (mcons ?_ mnil))<;>first|rfl|exact h0|trivial)⟩
def C_pal:Ctr Td:=fun us sub=>match us,sub with
 |[.one (.ptr 0 0)],[⟨.bx [.obj 1],true⟩,⟨.us (.ext (.flat (.rw 72 [false,false,false] Y))),true⟩]=>some ([Y.length≤100000],.c (.one (.obj 2)),[⟨.bx [.obj 1],true⟩,⟨.us (.ext (.flat (.rw 72 [false,false,false] Y))),true⟩,⟨.us (.ext (.flat (.rw 72 [false,false,false] Y))),true⟩])
 |_,_=>none
theorem C_pal_ok:CtrOk Try.prog Id' 38 C_pal:=by
 intro us sub ps x sm h hp w e vs hM ha
 unfold C_pal at h
 split at h
 ·rename_i Y
  simp only [Option.some.injEq,Prod.mk.injEq] at h
  obtain ⟨rfl,rfl,rfl⟩:=h
  have h0:=hp _ ((List.mem_cons_self ..))
  exact ctr_way (I:=Id') (fun (W0:World) (G:Nat→Prop)=>SyOk.mk2 Try.mixed dkHo_ok (FnsR.cons (RW_clW) (FnsR.nil)) EqsOk.nil) rfl Try.func38 (by kernel_rfl) (fun W0 G=>LpsOk.nil _) (cs:=[]) (by kernel_rfl) (pal_w0 Y h0) w e vs hM ha
 ·cases h
theorem R_pal:RowOk Try.prog Id' hardD 38 (ctrF Id' C_pal hardD):=ctrF_ok Try.call38 C_pal_ok
end Go.Proofs.Ytdenmoiaiemokaa
