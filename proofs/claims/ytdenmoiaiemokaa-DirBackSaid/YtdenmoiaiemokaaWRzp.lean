/- W51 W52 W53 W54 WRz. -/
import Derived.Test.YtdenmoiaiemokaaW50p
import Derived.Test.YtdenmoiaiemokaaW44p
import Derived.Test.YtdenmoiaiemokaaW37p
set_option linter.unusedVariables false
set_option linter.unusedSimpArgs false
namespace Go.Proofs.Ytdenmoiaiemokaa
open Go.RowKit
def eqV (B B2:List (List UInt8)) (i:Int):Bool:=decide (B2.getD i.toNat []=B.getD i.toNat [])
set_option maxRecDepth 100000 in
theorem bk00_n (R:List Rw) (B B2:List (List UInt8)) (i i2:Int) (k:Nat) (f:Nat→Value) (h0:decide (i<((TB.bs B2).n:Int))=true) (h1:IntKind.i64.wrap (i+1)=i2) (h2:0≤i∧i.toNat<(TB.bs B2).n) (h3:eqV B B2 (i)=true) (h4:B2.length≤B.length):∃ qs,alN Id' 6 [(13,.c (.one (.v (.int .i64 i2))))] [⟨.us (.ext (.vw [true,false,false,false] R)),false⟩,⟨.us (.ext (.shr 1 B.length (tbE B))),false⟩,⟨.dead,true⟩,⟨.dead,true⟩,⟨.dead,true⟩,⟨.us (.ext (.tab (.bs B2))),true⟩] ((symC (⟨Try.prog,[F_rsame (ξ:=Dk)],[],dkHo,Id'.one,60⟩:Sy Td) [(100018,qG (⟨Try.prog,[F_rsame (ξ:=Dk)],[],dkHo,Id'.one,60⟩:Sy Td) 85 (opsQ 18 (bodyOf Try.f9)))] 85 (hdC (loopsC (bodyOf Try.f9)) 0) ⟨[(13,.c (.one (.v (.int .i64 i))))]++anyB' (writesC (hdC (loopsC (bodyOf Try.f9)) 0)) ([(11,.c (.one (.obj 5))),(1,.c (.one (.obj 1)))]++tabV f 85),[⟨.us (.ext (.vw [true,false,false,false] R)),false⟩,⟨.us (.ext (.shr 1 B.length (tbE B))),false⟩,⟨.dead,true⟩,⟨.dead,true⟩,⟨.dead,true⟩,⟨.us (.ext (.tab (.bs B2))),true⟩],0⟩).al [true,false])=some qs∧∀ q∈qs,q:=
 ⟨[decide (i<(↑(TB.bs B2).n:Int))=true,(0:Int)≤i∧i.toNat<B.length,(0:Int)≤i∧i.toNat<(TB.bs B2).n,(!decide ((TB.bs B2).byt i=B.getD i.toNat []))=false,Th.ext (Dk.vw [true,false,false,false] R)=Th.ext (Dk.vw [true,false,false,false] R),Th.ext (Dk.shr 1 B.length (tbE B))=Th.ext (Dk.shr 1 B.length (tbE B)),Th.ext (Dk.tab (TB.bs B2))=Th.ext (Dk.tab (TB.bs B2)),Value.int IntKind.i64 (IntKind.i64.wrap (i+(1:Int)))=Value.int IntKind.i64 i2],by kernel_rfl,(by refine mcons ?_ (mcons ?_ (mcons ?_ (mcons ?_ (mcons ?_ (mcons ?_ (mcons ?_ (mcons ?_ mnil)))))))<;>first|rfl|exact h0|exact h1|exact h2|exact h3|exact h4|trivial|(exact congrArg _ h1)|(exact h2)|(exact ⟨h2.1,Nat.lt_of_lt_of_le h2.2 h4⟩)|(exact h2)|(exact congrArg (! ·) h3))⟩
set_option maxRecDepth 100000 in
theorem bk00_x (R:List Rw) (B B2:List (List UInt8)) (i i2:Int) (k:Nat) (f:Nat→Value) (h0:decide (i<((TB.bs B2).n:Int))=false):∃ qs,alX Id' 6 0 [] [⟨.us (.ext (.vw [true,false,false,false] R)),false⟩,⟨.us (.ext (.shr 1 B.length (tbE B))),false⟩,⟨.dead,true⟩,⟨.dead,true⟩,⟨.dead,true⟩,⟨.us (.ext (.tab (.bs B2))),true⟩] ((symC (⟨Try.prog,[F_rsame (ξ:=Dk)],[],dkHo,Id'.one,60⟩:Sy Td) [(100018,qG (⟨Try.prog,[F_rsame (ξ:=Dk)],[],dkHo,Id'.one,60⟩:Sy Td) 85 (opsQ 18 (bodyOf Try.f9)))] 85 (hdC (loopsC (bodyOf Try.f9)) 0) ⟨[(13,.c (.one (.v (.int .i64 i))))]++anyB' (writesC (hdC (loopsC (bodyOf Try.f9)) 0)) ([(11,.c (.one (.obj 5))),(1,.c (.one (.obj 1)))]++tabV f 85),[⟨.us (.ext (.vw [true,false,false,false] R)),false⟩,⟨.us (.ext (.shr 1 B.length (tbE B))),false⟩,⟨.dead,true⟩,⟨.dead,true⟩,⟨.dead,true⟩,⟨.us (.ext (.tab (.bs B2))),true⟩],0⟩).al [false])=some qs∧∀ q∈qs,q:=
 ⟨[decide (i<(↑(TB.bs B2).n:Int))=false,Th.ext (Dk.vw [true,false,false,false] R)=Th.ext (Dk.vw [true,false,false,false] R),Th.ext (Dk.shr 1 B.length (tbE B))=Th.ext (Dk.shr 1 B.length (tbE B)),Th.ext (Dk.tab (TB.bs B2))=Th.ext (Dk.tab (TB.bs B2))],by kernel_rfl,(by refine mcons ?_ (mcons ?_ (mcons ?_ (mcons ?_ mnil)))<;>first|rfl|exact h0|trivial|(exact congrArg _ h1)|(exact h2)|(exact ⟨h2.1,Nat.lt_of_lt_of_le h2.2 h4⟩)|(exact h2)|(exact congrArg (! ·) h3))⟩
set_option maxRecDepth 100000 in
theorem bk00_lpA (R:List Rw) (B B2:List (List UInt8)) (hL:(TB.bs B2).n≤100000) (x0:B2.length≤B.length) (hall:∀ i:Int,0≤i→i.toNat<(TB.bs B2).n→eqV B B2 (i)=true) {W0:World} {G:Nat→Prop} (S0:Sy Td) (hS0:S0.P=Try.prog):LoopSound S0 Id' W0 G 85 (hdC (loopsC (bodyOf Try.f9)) 0) (lpG Id' 85 (hdC (loopsC (bodyOf Try.f9)) 0) 6 [(13,.c (.one (.v (.int .i64 ((0+0:Nat):Int)))))] [(11,.c (.one (.obj 5))),(1,.c (.one (.obj 1)))] [⟨.us (.ext (.vw [true,false,false,false] R)),false⟩,⟨.us (.ext (.shr 1 B.length (tbE B))),false⟩,⟨.dead,true⟩,⟨.dead,true⟩,⟨.dead,true⟩,⟨.us (.ext (.tab (.bs B2))),true⟩] (.leaf (.exit 0) [] [⟨.us (.ext (.vw [true,false,false,false] R)),false⟩,⟨.us (.ext (.shr 1 B.length (tbE B))),false⟩,⟨.dead,true⟩,⟨.dead,true⟩,⟨.dead,true⟩,⟨.us (.ext (.tab (.bs B2))),true⟩])):=by
 refine lp_sound (V:=fun k=>[(13,.c (.one (.v (.int .i64 ((k+0:Nat):Int)))))]) (M:=(fun k=>[⟨.us (.ext (.vw [true,false,false,false] R)),false⟩,⟨.us (.ext (.shr 1 B.length (tbE B))),false⟩,⟨.dead,true⟩,⟨.dead,true⟩,⟨.dead,true⟩,⟨.us (.ext (.tab (.bs B2))),true⟩]:Nat→Mem Td)) (N:=(TB.bs B2).n) (Ux:=fun k x=>match x with|.exit 0=>some ([],([⟨.us (.ext (.vw [true,false,false,false] R)),false⟩,⟨.us (.ext (.shr 1 B.length (tbE B))),false⟩,⟨.dead,true⟩,⟨.dead,true⟩,⟨.dead,true⟩,⟨.us (.ext (.tab (.bs B2))),true⟩]:Mem Td))|_=>none) (X:=fun _ _=>True) (J:=fun k=>True) (fun k=>by kernel_rfl) trivial (fun k hk hJ f=>?_) (fun K hK k x U hk hU hX=>?_)
 ·rw [hS0]
  cases hT:decide (((k+0:Nat):Int)<((TB.bs B2).n:Int)) with
  |false=>
   (obtain ⟨ps,g1,g2⟩:=bk00_x R B B2 ((k+0:Nat):Int) ((k+1+0:Nat):Int) k f hT;exact rnd_x (⟨Try.prog,[F_rsame (ξ:=Dk)],[],dkHo,Id'.one,60⟩:Sy Td) [(100018,qG (⟨Try.prog,[F_rsame (ξ:=Dk)],[],dkHo,Id'.one,60⟩:Sy Td) 85 (opsQ 18 (bodyOf Try.f9)))] rfl ((fun (W0:World) (G:Nat→Prop)=>SyOk.mk2 Try.mixed dkHo_ok (FnsR.cons (F_rsame_ok (J:=dkI) (hx:=hardDk)) (FnsR.nil)) EqsOk.nil) W0 G) (LpsOk.cons (by kernel_rfl) (qG_sound (id:=18) ((fun (W0:World) (G:Nat→Prop)=>SyOk.mk2 Try.mixed dkHo_ok (FnsR.cons (F_rsame_ok (J:=dkI) (hx:=hardDk)) (FnsR.nil)) EqsOk.nil) W0 G) rfl rfl (by kernel_rfl)) (LpsOk.nil _)) (m2:=_) (fun w e h=>h) [false] 0 ps g1 g2 rfl trivial)
  |true=>
   have hk1:=of_decide_eq_true hT
   have hW:IntKind.i64.wrap (((k+0:Nat):Int)+1)=((k+1+0:Nat):Int):=by rw [IntWalk.i64_in _ (by omega)];omega
   (obtain ⟨ps,g1,g2⟩:=bk00_n R B B2 ((k+0:Nat):Int) ((k+1+0:Nat):Int) k f hT hW (by omega) (hall _ (by omega) (by omega)) x0;exact rnd_n (⟨Try.prog,[F_rsame (ξ:=Dk)],[],dkHo,Id'.one,60⟩:Sy Td) [(100018,qG (⟨Try.prog,[F_rsame (ξ:=Dk)],[],dkHo,Id'.one,60⟩:Sy Td) 85 (opsQ 18 (bodyOf Try.f9)))] rfl ((fun (W0:World) (G:Nat→Prop)=>SyOk.mk2 Try.mixed dkHo_ok (FnsR.cons (F_rsame_ok (J:=dkI) (hx:=hardDk)) (FnsR.nil)) EqsOk.nil) W0 G) (LpsOk.cons (by kernel_rfl) (qG_sound (id:=18) ((fun (W0:World) (G:Nat→Prop)=>SyOk.mk2 Try.mixed dkHo_ok (FnsR.cons (F_rsame_ok (J:=dkI) (hx:=hardDk)) (FnsR.nil)) EqsOk.nil) W0 G) rfl rfl (by kernel_rfl)) (LpsOk.nil _)) (m2:=_) (fun w e h=>h) [true,false] ps g1 g2 rfl rfl (by omega) trivial)
 ·revert hU
  match x with
  |.exit 0=>intro hU;simp only [Option.some.injEq] at hU;subst hU;exact hK
  |.normal=>intro hU;cases hU
  |.ret=>intro hU;cases hU
  |.exit (n+1)=>intro hU;cases hU
set_option maxRecDepth 100000 in
theorem bk01_n (R:List Rw) (B B2:List (List UInt8)) (i i2:Int) (k:Nat) (f:Nat→Value) (h0:decide (i<((TB.bs B2).n:Int))=true) (h1:IntKind.i64.wrap (i+1)=i2) (h2:0≤i∧i.toNat<(TB.bs B2).n) (h3:eqV B B2 (i)=true) (h4:B2.length≤7):∃ qs,alN Id' 7 [(13,.c (.one (.v (.int .i64 i2))))] [⟨.us (.ext (.vw [true,false,false,false] R)),false⟩,⟨.us (.ext (.shr 1 B.length (tbE B))),false⟩,⟨.dead,true⟩,⟨.dead,true⟩,⟨.us (.ext (.shr 1 7 (tbE B))),false⟩,⟨.dead,true⟩,⟨.us (.ext (.tab (.bs B2))),true⟩] ((symC (⟨Try.prog,[F_rsame (ξ:=Dk)],[],dkHo,Id'.one,60⟩:Sy Td) [(100018,qG (⟨Try.prog,[F_rsame (ξ:=Dk)],[],dkHo,Id'.one,60⟩:Sy Td) 85 (opsQ 18 (bodyOf Try.f9)))] 85 (hdC (loopsC (bodyOf Try.f9)) 0) ⟨[(13,.c (.one (.v (.int .i64 i))))]++anyB' (writesC (hdC (loopsC (bodyOf Try.f9)) 0)) ([(11,.c (.one (.obj 6))),(1,.c (.one (.obj 4)))]++tabV f 85),[⟨.us (.ext (.vw [true,false,false,false] R)),false⟩,⟨.us (.ext (.shr 1 B.length (tbE B))),false⟩,⟨.dead,true⟩,⟨.dead,true⟩,⟨.us (.ext (.shr 1 7 (tbE B))),false⟩,⟨.dead,true⟩,⟨.us (.ext (.tab (.bs B2))),true⟩],0⟩).al [true,false])=some qs∧∀ q∈qs,q:=
 ⟨[decide (i<(↑(TB.bs B2).n:Int))=true,(0:Int)≤i∧i.toNat<(7:Nat),(0:Int)≤i∧i.toNat<(TB.bs B2).n,(!decide ((TB.bs B2).byt i=B.getD i.toNat []))=false,Th.ext (Dk.vw [true,false,false,false] R)=Th.ext (Dk.vw [true,false,false,false] R),Th.ext (Dk.shr 1 B.length (tbE B))=Th.ext (Dk.shr 1 B.length (tbE B)),Th.ext (Dk.shr 1 7 (tbE B))=Th.ext (Dk.shr 1 7 (tbE B)),Th.ext (Dk.tab (TB.bs B2))=Th.ext (Dk.tab (TB.bs B2)),Value.int IntKind.i64 (IntKind.i64.wrap (i+(1:Int)))=Value.int IntKind.i64 i2],by kernel_rfl,(by refine mcons ?_ (mcons ?_ (mcons ?_ (mcons ?_ (mcons ?_ (mcons ?_ (mcons ?_ (mcons ?_ (mcons ?_ mnil))))))))<;>first|rfl|exact h0|exact h1|exact h2|exact h3|exact h4|trivial|(exact congrArg _ h1)|(exact h2)|(exact ⟨h2.1,Nat.lt_of_lt_of_le h2.2 h4⟩)|(exact h2)|(exact congrArg (! ·) h3))⟩
set_option maxRecDepth 100000 in
theorem bk01_x (R:List Rw) (B B2:List (List UInt8)) (i i2:Int) (k:Nat) (f:Nat→Value) (h0:decide (i<((TB.bs B2).n:Int))=false):∃ qs,alX Id' 7 0 [] [⟨.us (.ext (.vw [true,false,false,false] R)),false⟩,⟨.us (.ext (.shr 1 B.length (tbE B))),false⟩,⟨.dead,true⟩,⟨.dead,true⟩,⟨.us (.ext (.shr 1 7 (tbE B))),false⟩,⟨.dead,true⟩,⟨.us (.ext (.tab (.bs B2))),true⟩] ((symC (⟨Try.prog,[F_rsame (ξ:=Dk)],[],dkHo,Id'.one,60⟩:Sy Td) [(100018,qG (⟨Try.prog,[F_rsame (ξ:=Dk)],[],dkHo,Id'.one,60⟩:Sy Td) 85 (opsQ 18 (bodyOf Try.f9)))] 85 (hdC (loopsC (bodyOf Try.f9)) 0) ⟨[(13,.c (.one (.v (.int .i64 i))))]++anyB' (writesC (hdC (loopsC (bodyOf Try.f9)) 0)) ([(11,.c (.one (.obj 6))),(1,.c (.one (.obj 4)))]++tabV f 85),[⟨.us (.ext (.vw [true,false,false,false] R)),false⟩,⟨.us (.ext (.shr 1 B.length (tbE B))),false⟩,⟨.dead,true⟩,⟨.dead,true⟩,⟨.us (.ext (.shr 1 7 (tbE B))),false⟩,⟨.dead,true⟩,⟨.us (.ext (.tab (.bs B2))),true⟩],0⟩).al [false])=some qs∧∀ q∈qs,q:=
 ⟨[decide (i<(↑(TB.bs B2).n:Int))=false,Th.ext (Dk.vw [true,false,false,false] R)=Th.ext (Dk.vw [true,false,false,false] R),Th.ext (Dk.shr 1 B.length (tbE B))=Th.ext (Dk.shr 1 B.length (tbE B)),Th.ext (Dk.shr 1 7 (tbE B))=Th.ext (Dk.shr 1 7 (tbE B)),Th.ext (Dk.tab (TB.bs B2))=Th.ext (Dk.tab (TB.bs B2))],by kernel_rfl,(by refine mcons ?_ (mcons ?_ (mcons ?_ (mcons ?_ (mcons ?_ mnil))))<;>first|rfl|exact h0|trivial|(exact congrArg _ h1)|(exact h2)|(exact ⟨h2.1,Nat.lt_of_lt_of_le h2.2 h4⟩)|(exact h2)|(exact congrArg (! ·) h3))⟩
set_option maxRecDepth 100000 in
theorem bk01_lpA (R:List Rw) (B B2:List (List UInt8)) (hL:(TB.bs B2).n≤100000) (x0:B2.length≤7) (hall:∀ i:Int,0≤i→i.toNat<(TB.bs B2).n→eqV B B2 (i)=true) {W0:World} {G:Nat→Prop} (S0:Sy Td) (hS0:S0.P=Try.prog):LoopSound S0 Id' W0 G 85 (hdC (loopsC (bodyOf Try.f9)) 0) (lpG Id' 85 (hdC (loopsC (bodyOf Try.f9)) 0) 7 [(13,.c (.one (.v (.int .i64 ((0+0:Nat):Int)))))] [(11,.c (.one (.obj 6))),(1,.c (.one (.obj 4)))] [⟨.us (.ext (.vw [true,false,false,false] R)),false⟩,⟨.us (.ext (.shr 1 B.length (tbE B))),false⟩,⟨.dead,true⟩,⟨.dead,true⟩,⟨.us (.ext (.shr 1 7 (tbE B))),false⟩,⟨.dead,true⟩,⟨.us (.ext (.tab (.bs B2))),true⟩] (.leaf (.exit 0) [] [⟨.us (.ext (.vw [true,false,false,false] R)),false⟩,⟨.us (.ext (.shr 1 B.length (tbE B))),false⟩,⟨.dead,true⟩,⟨.dead,true⟩,⟨.us (.ext (.shr 1 7 (tbE B))),false⟩,⟨.dead,true⟩,⟨.us (.ext (.tab (.bs B2))),true⟩])):=by
 refine lp_sound (V:=fun k=>[(13,.c (.one (.v (.int .i64 ((k+0:Nat):Int)))))]) (M:=(fun k=>[⟨.us (.ext (.vw [true,false,false,false] R)),false⟩,⟨.us (.ext (.shr 1 B.length (tbE B))),false⟩,⟨.dead,true⟩,⟨.dead,true⟩,⟨.us (.ext (.shr 1 7 (tbE B))),false⟩,⟨.dead,true⟩,⟨.us (.ext (.tab (.bs B2))),true⟩]:Nat→Mem Td)) (N:=(TB.bs B2).n) (Ux:=fun k x=>match x with|.exit 0=>some ([],([⟨.us (.ext (.vw [true,false,false,false] R)),false⟩,⟨.us (.ext (.shr 1 B.length (tbE B))),false⟩,⟨.dead,true⟩,⟨.dead,true⟩,⟨.us (.ext (.shr 1 7 (tbE B))),false⟩,⟨.dead,true⟩,⟨.us (.ext (.tab (.bs B2))),true⟩]:Mem Td))|_=>none) (X:=fun _ _=>True) (J:=fun k=>True) (fun k=>by kernel_rfl) trivial (fun k hk hJ f=>?_) (fun K hK k x U hk hU hX=>?_)
 ·rw [hS0]
  cases hT:decide (((k+0:Nat):Int)<((TB.bs B2).n:Int)) with
  |false=>
   (obtain ⟨ps,g1,g2⟩:=bk01_x R B B2 ((k+0:Nat):Int) ((k+1+0:Nat):Int) k f hT;exact rnd_x (⟨Try.prog,[F_rsame (ξ:=Dk)],[],dkHo,Id'.one,60⟩:Sy Td) [(100018,qG (⟨Try.prog,[F_rsame (ξ:=Dk)],[],dkHo,Id'.one,60⟩:Sy Td) 85 (opsQ 18 (bodyOf Try.f9)))] rfl ((fun (W0:World) (G:Nat→Prop)=>SyOk.mk2 Try.mixed dkHo_ok (FnsR.cons (F_rsame_ok (J:=dkI) (hx:=hardDk)) (FnsR.nil)) EqsOk.nil) W0 G) (LpsOk.cons (by kernel_rfl) (qG_sound (id:=18) ((fun (W0:World) (G:Nat→Prop)=>SyOk.mk2 Try.mixed dkHo_ok (FnsR.cons (F_rsame_ok (J:=dkI) (hx:=hardDk)) (FnsR.nil)) EqsOk.nil) W0 G) rfl rfl (by kernel_rfl)) (LpsOk.nil _)) (m2:=_) (fun w e h=>h) [false] 0 ps g1 g2 rfl trivial)
  |true=>
   have hk1:=of_decide_eq_true hT
   have hW:IntKind.i64.wrap (((k+0:Nat):Int)+1)=((k+1+0:Nat):Int):=by rw [IntWalk.i64_in _ (by omega)];omega
   (obtain ⟨ps,g1,g2⟩:=bk01_n R B B2 ((k+0:Nat):Int) ((k+1+0:Nat):Int) k f hT hW (by omega) (hall _ (by omega) (by omega)) x0;exact rnd_n (⟨Try.prog,[F_rsame (ξ:=Dk)],[],dkHo,Id'.one,60⟩:Sy Td) [(100018,qG (⟨Try.prog,[F_rsame (ξ:=Dk)],[],dkHo,Id'.one,60⟩:Sy Td) 85 (opsQ 18 (bodyOf Try.f9)))] rfl ((fun (W0:World) (G:Nat→Prop)=>SyOk.mk2 Try.mixed dkHo_ok (FnsR.cons (F_rsame_ok (J:=dkI) (hx:=hardDk)) (FnsR.nil)) EqsOk.nil) W0 G) (LpsOk.cons (by kernel_rfl) (qG_sound (id:=18) ((fun (W0:World) (G:Nat→Prop)=>SyOk.mk2 Try.mixed dkHo_ok (FnsR.cons (F_rsame_ok (J:=dkI) (hx:=hardDk)) (FnsR.nil)) EqsOk.nil) W0 G) rfl rfl (by kernel_rfl)) (LpsOk.nil _)) (m2:=_) (fun w e h=>h) [true,false] ps g1 g2 rfl rfl (by omega) trivial)
 ·revert hU
  match x with
  |.exit 0=>intro hU;simp only [Option.some.injEq] at hU;subst hU;exact hK
  |.normal=>intro hU;cases hU
  |.ret=>intro hU;cases hU
  |.exit (n+1)=>intro hU;cases hU
set_option maxRecDepth 100000 in
theorem bk10_n (R:List Rw) (B B2:List (List UInt8)) (i i2:Int) (k:Nat) (f:Nat→Value) (h0:decide (i<((TB.bs B2).n:Int))=true) (h1:IntKind.i64.wrap (i+1)=i2) (h2:0≤i∧i.toNat<(TB.bs B2).n) (h3:eqV B B2 (i)=true) (h4:B2.length≤B.length):∃ qs,alN Id' 7 [(13,.c (.one (.v (.int .i64 i2))))] [⟨.us (.ext (.vw [true,false,false,false] R)),false⟩,⟨.us (.ext (.shr 1 B.length (tbE B))),false⟩,⟨.dead,true⟩,⟨.dead,true⟩,⟨.dead,true⟩,⟨.dead,true⟩,⟨.us (.ext (.tab (.bs B2))),true⟩] ((symC (⟨Try.prog,[F_rsame (ξ:=Dk)],[],dkHo,Id'.one,60⟩:Sy Td) [(100018,qG (⟨Try.prog,[F_rsame (ξ:=Dk)],[],dkHo,Id'.one,60⟩:Sy Td) 85 (opsQ 18 (bodyOf Try.f9)))] 85 (hdC (loopsC (bodyOf Try.f9)) 0) ⟨[(13,.c (.one (.v (.int .i64 i))))]++anyB' (writesC (hdC (loopsC (bodyOf Try.f9)) 0)) ([(11,.c (.one (.obj 6))),(1,.c (.one (.obj 1)))]++tabV f 85),[⟨.us (.ext (.vw [true,false,false,false] R)),false⟩,⟨.us (.ext (.shr 1 B.length (tbE B))),false⟩,⟨.dead,true⟩,⟨.dead,true⟩,⟨.dead,true⟩,⟨.dead,true⟩,⟨.us (.ext (.tab (.bs B2))),true⟩],0⟩).al [true,false])=some qs∧∀ q∈qs,q:=
 ⟨[decide (i<(↑(TB.bs B2).n:Int))=true,(0:Int)≤i∧i.toNat<B.length,(0:Int)≤i∧i.toNat<(TB.bs B2).n,(!decide ((TB.bs B2).byt i=B.getD i.toNat []))=false,Th.ext (Dk.vw [true,false,false,false] R)=Th.ext (Dk.vw [true,false,false,false] R),Th.ext (Dk.shr 1 B.length (tbE B))=Th.ext (Dk.shr 1 B.length (tbE B)),Th.ext (Dk.tab (TB.bs B2))=Th.ext (Dk.tab (TB.bs B2)),Value.int IntKind.i64 (IntKind.i64.wrap (i+(1:Int)))=Value.int IntKind.i64 i2],by kernel_rfl,(by refine mcons ?_ (mcons ?_ (mcons ?_ (mcons ?_ (mcons ?_ (mcons ?_ (mcons ?_ (mcons ?_ mnil)))))))<;>first|rfl|exact h0|exact h1|exact h2|exact h3|exact h4|trivial|(exact congrArg _ h1)|(exact h2)|(exact ⟨h2.1,Nat.lt_of_lt_of_le h2.2 h4⟩)|(exact h2)|(exact congrArg (! ·) h3))⟩
set_option maxRecDepth 100000 in
theorem bk10_x (R:List Rw) (B B2:List (List UInt8)) (i i2:Int) (k:Nat) (f:Nat→Value) (h0:decide (i<((TB.bs B2).n:Int))=false):∃ qs,alX Id' 7 0 [] [⟨.us (.ext (.vw [true,false,false,false] R)),false⟩,⟨.us (.ext (.shr 1 B.length (tbE B))),false⟩,⟨.dead,true⟩,⟨.dead,true⟩,⟨.dead,true⟩,⟨.dead,true⟩,⟨.us (.ext (.tab (.bs B2))),true⟩] ((symC (⟨Try.prog,[F_rsame (ξ:=Dk)],[],dkHo,Id'.one,60⟩:Sy Td) [(100018,qG (⟨Try.prog,[F_rsame (ξ:=Dk)],[],dkHo,Id'.one,60⟩:Sy Td) 85 (opsQ 18 (bodyOf Try.f9)))] 85 (hdC (loopsC (bodyOf Try.f9)) 0) ⟨[(13,.c (.one (.v (.int .i64 i))))]++anyB' (writesC (hdC (loopsC (bodyOf Try.f9)) 0)) ([(11,.c (.one (.obj 6))),(1,.c (.one (.obj 1)))]++tabV f 85),[⟨.us (.ext (.vw [true,false,false,false] R)),false⟩,⟨.us (.ext (.shr 1 B.length (tbE B))),false⟩,⟨.dead,true⟩,⟨.dead,true⟩,⟨.dead,true⟩,⟨.dead,true⟩,⟨.us (.ext (.tab (.bs B2))),true⟩],0⟩).al [false])=some qs∧∀ q∈qs,q:=
 ⟨[decide (i<(↑(TB.bs B2).n:Int))=false,Th.ext (Dk.vw [true,false,false,false] R)=Th.ext (Dk.vw [true,false,false,false] R),Th.ext (Dk.shr 1 B.length (tbE B))=Th.ext (Dk.shr 1 B.length (tbE B)),Th.ext (Dk.tab (TB.bs B2))=Th.ext (Dk.tab (TB.bs B2))],by kernel_rfl,(by refine mcons ?_ (mcons ?_ (mcons ?_ (mcons ?_ mnil)))<;>first|rfl|exact h0|trivial|(exact congrArg _ h1)|(exact h2)|(exact ⟨h2.1,Nat.lt_of_lt_of_le h2.2 h4⟩)|(exact h2)|(exact congrArg (! ·) h3))⟩
set_option maxRecDepth 100000 in
theorem bk10_lpA (R:List Rw) (B B2:List (List UInt8)) (hL:(TB.bs B2).n≤100000) (x0:B2.length≤B.length) (hall:∀ i:Int,0≤i→i.toNat<(TB.bs B2).n→eqV B B2 (i)=true) {W0:World} {G:Nat→Prop} (S0:Sy Td) (hS0:S0.P=Try.prog):LoopSound S0 Id' W0 G 85 (hdC (loopsC (bodyOf Try.f9)) 0) (lpG Id' 85 (hdC (loopsC (bodyOf Try.f9)) 0) 7 [(13,.c (.one (.v (.int .i64 ((0+0:Nat):Int)))))] [(11,.c (.one (.obj 6))),(1,.c (.one (.obj 1)))] [⟨.us (.ext (.vw [true,false,false,false] R)),false⟩,⟨.us (.ext (.shr 1 B.length (tbE B))),false⟩,⟨.dead,true⟩,⟨.dead,true⟩,⟨.dead,true⟩,⟨.dead,true⟩,⟨.us (.ext (.tab (.bs B2))),true⟩] (.leaf (.exit 0) [] [⟨.us (.ext (.vw [true,false,false,false] R)),false⟩,⟨.us (.ext (.shr 1 B.length (tbE B))),false⟩,⟨.dead,true⟩,⟨.dead,true⟩,⟨.dead,true⟩,⟨.dead,true⟩,⟨.us (.ext (.tab (.bs B2))),true⟩])):=by
 refine lp_sound (V:=fun k=>[(13,.c (.one (.v (.int .i64 ((k+0:Nat):Int)))))]) (M:=(fun k=>[⟨.us (.ext (.vw [true,false,false,false] R)),false⟩,⟨.us (.ext (.shr 1 B.length (tbE B))),false⟩,⟨.dead,true⟩,⟨.dead,true⟩,⟨.dead,true⟩,⟨.dead,true⟩,⟨.us (.ext (.tab (.bs B2))),true⟩]:Nat→Mem Td)) (N:=(TB.bs B2).n) (Ux:=fun k x=>match x with|.exit 0=>some ([],([⟨.us (.ext (.vw [true,false,false,false] R)),false⟩,⟨.us (.ext (.shr 1 B.length (tbE B))),false⟩,⟨.dead,true⟩,⟨.dead,true⟩,⟨.dead,true⟩,⟨.dead,true⟩,⟨.us (.ext (.tab (.bs B2))),true⟩]:Mem Td))|_=>none) (X:=fun _ _=>True) (J:=fun k=>True) (fun k=>by kernel_rfl) trivial (fun k hk hJ f=>?_) (fun K hK k x U hk hU hX=>?_)
 ·rw [hS0]
  cases hT:decide (((k+0:Nat):Int)<((TB.bs B2).n:Int)) with
  |false=>
   (obtain ⟨ps,g1,g2⟩:=bk10_x R B B2 ((k+0:Nat):Int) ((k+1+0:Nat):Int) k f hT;exact rnd_x (⟨Try.prog,[F_rsame (ξ:=Dk)],[],dkHo,Id'.one,60⟩:Sy Td) [(100018,qG (⟨Try.prog,[F_rsame (ξ:=Dk)],[],dkHo,Id'.one,60⟩:Sy Td) 85 (opsQ 18 (bodyOf Try.f9)))] rfl ((fun (W0:World) (G:Nat→Prop)=>SyOk.mk2 Try.mixed dkHo_ok (FnsR.cons (F_rsame_ok (J:=dkI) (hx:=hardDk)) (FnsR.nil)) EqsOk.nil) W0 G) (LpsOk.cons (by kernel_rfl) (qG_sound (id:=18) ((fun (W0:World) (G:Nat→Prop)=>SyOk.mk2 Try.mixed dkHo_ok (FnsR.cons (F_rsame_ok (J:=dkI) (hx:=hardDk)) (FnsR.nil)) EqsOk.nil) W0 G) rfl rfl (by kernel_rfl)) (LpsOk.nil _)) (m2:=_) (fun w e h=>h) [false] 0 ps g1 g2 rfl trivial)
  |true=>
   have hk1:=of_decide_eq_true hT
   have hW:IntKind.i64.wrap (((k+0:Nat):Int)+1)=((k+1+0:Nat):Int):=by rw [IntWalk.i64_in _ (by omega)];omega
   (obtain ⟨ps,g1,g2⟩:=bk10_n R B B2 ((k+0:Nat):Int) ((k+1+0:Nat):Int) k f hT hW (by omega) (hall _ (by omega) (by omega)) x0;exact rnd_n (⟨Try.prog,[F_rsame (ξ:=Dk)],[],dkHo,Id'.one,60⟩:Sy Td) [(100018,qG (⟨Try.prog,[F_rsame (ξ:=Dk)],[],dkHo,Id'.one,60⟩:Sy Td) 85 (opsQ 18 (bodyOf Try.f9)))] rfl ((fun (W0:World) (G:Nat→Prop)=>SyOk.mk2 Try.mixed dkHo_ok (FnsR.cons (F_rsame_ok (J:=dkI) (hx:=hardDk)) (FnsR.nil)) EqsOk.nil) W0 G) (LpsOk.cons (by kernel_rfl) (qG_sound (id:=18) ((fun (W0:World) (G:Nat→Prop)=>SyOk.mk2 Try.mixed dkHo_ok (FnsR.cons (F_rsame_ok (J:=dkI) (hx:=hardDk)) (FnsR.nil)) EqsOk.nil) W0 G) rfl rfl (by kernel_rfl)) (LpsOk.nil _)) (m2:=_) (fun w e h=>h) [true,false] ps g1 g2 rfl rfl (by omega) trivial)
 ·revert hU
  match x with
  |.exit 0=>intro hU;simp only [Option.some.injEq] at hU;subst hU;exact hK
  |.normal=>intro hU;cases hU
  |.ret=>intro hU;cases hU
  |.exit (n+1)=>intro hU;cases hU
set_option maxRecDepth 100000 in
theorem bk11_n (R:List Rw) (B B2:List (List UInt8)) (i i2:Int) (k:Nat) (f:Nat→Value) (h0:decide (i<((TB.bs B2).n:Int))=true) (h1:IntKind.i64.wrap (i+1)=i2) (h2:0≤i∧i.toNat<(TB.bs B2).n) (h3:eqV B B2 (i)=true) (h4:B2.length≤7):∃ qs,alN Id' 8 [(13,.c (.one (.v (.int .i64 i2))))] [⟨.us (.ext (.vw [true,false,false,false] R)),false⟩,⟨.us (.ext (.shr 1 B.length (tbE B))),false⟩,⟨.dead,true⟩,⟨.dead,true⟩,⟨.dead,true⟩,⟨.us (.ext (.shr 1 7 (tbE B))),false⟩,⟨.dead,true⟩,⟨.us (.ext (.tab (.bs B2))),true⟩] ((symC (⟨Try.prog,[F_rsame (ξ:=Dk)],[],dkHo,Id'.one,60⟩:Sy Td) [(100018,qG (⟨Try.prog,[F_rsame (ξ:=Dk)],[],dkHo,Id'.one,60⟩:Sy Td) 85 (opsQ 18 (bodyOf Try.f9)))] 85 (hdC (loopsC (bodyOf Try.f9)) 0) ⟨[(13,.c (.one (.v (.int .i64 i))))]++anyB' (writesC (hdC (loopsC (bodyOf Try.f9)) 0)) ([(11,.c (.one (.obj 7))),(1,.c (.one (.obj 5)))]++tabV f 85),[⟨.us (.ext (.vw [true,false,false,false] R)),false⟩,⟨.us (.ext (.shr 1 B.length (tbE B))),false⟩,⟨.dead,true⟩,⟨.dead,true⟩,⟨.dead,true⟩,⟨.us (.ext (.shr 1 7 (tbE B))),false⟩,⟨.dead,true⟩,⟨.us (.ext (.tab (.bs B2))),true⟩],0⟩).al [true,false])=some qs∧∀ q∈qs,q:=
 ⟨[decide (i<(↑(TB.bs B2).n:Int))=true,(0:Int)≤i∧i.toNat<(7:Nat),(0:Int)≤i∧i.toNat<(TB.bs B2).n,(!decide ((TB.bs B2).byt i=B.getD i.toNat []))=false,Th.ext (Dk.vw [true,false,false,false] R)=Th.ext (Dk.vw [true,false,false,false] R),Th.ext (Dk.shr 1 B.length (tbE B))=Th.ext (Dk.shr 1 B.length (tbE B)),Th.ext (Dk.shr 1 7 (tbE B))=Th.ext (Dk.shr 1 7 (tbE B)),Th.ext (Dk.tab (TB.bs B2))=Th.ext (Dk.tab (TB.bs B2)),Value.int IntKind.i64 (IntKind.i64.wrap (i+(1:Int)))=Value.int IntKind.i64 i2],by kernel_rfl,(by refine mcons ?_ (mcons ?_ (mcons ?_ (mcons ?_ (mcons ?_ (mcons ?_ (mcons ?_ (mcons ?_ (mcons ?_ mnil))))))))<;>first|rfl|exact h0|exact h1|exact h2|exact h3|exact h4|trivial|(exact congrArg _ h1)|(exact h2)|(exact ⟨h2.1,Nat.lt_of_lt_of_le h2.2 h4⟩)|(exact h2)|(exact congrArg (! ·) h3))⟩
set_option maxRecDepth 100000 in
theorem bk11_x (R:List Rw) (B B2:List (List UInt8)) (i i2:Int) (k:Nat) (f:Nat→Value) (h0:decide (i<((TB.bs B2).n:Int))=false):∃ qs,alX Id' 8 0 [] [⟨.us (.ext (.vw [true,false,false,false] R)),false⟩,⟨.us (.ext (.shr 1 B.length (tbE B))),false⟩,⟨.dead,true⟩,⟨.dead,true⟩,⟨.dead,true⟩,⟨.us (.ext (.shr 1 7 (tbE B))),false⟩,⟨.dead,true⟩,⟨.us (.ext (.tab (.bs B2))),true⟩] ((symC (⟨Try.prog,[F_rsame (ξ:=Dk)],[],dkHo,Id'.one,60⟩:Sy Td) [(100018,qG (⟨Try.prog,[F_rsame (ξ:=Dk)],[],dkHo,Id'.one,60⟩:Sy Td) 85 (opsQ 18 (bodyOf Try.f9)))] 85 (hdC (loopsC (bodyOf Try.f9)) 0) ⟨[(13,.c (.one (.v (.int .i64 i))))]++anyB' (writesC (hdC (loopsC (bodyOf Try.f9)) 0)) ([(11,.c (.one (.obj 7))),(1,.c (.one (.obj 5)))]++tabV f 85),[⟨.us (.ext (.vw [true,false,false,false] R)),false⟩,⟨.us (.ext (.shr 1 B.length (tbE B))),false⟩,⟨.dead,true⟩,⟨.dead,true⟩,⟨.dead,true⟩,⟨.us (.ext (.shr 1 7 (tbE B))),false⟩,⟨.dead,true⟩,⟨.us (.ext (.tab (.bs B2))),true⟩],0⟩).al [false])=some qs∧∀ q∈qs,q:=
 ⟨[decide (i<(↑(TB.bs B2).n:Int))=false,Th.ext (Dk.vw [true,false,false,false] R)=Th.ext (Dk.vw [true,false,false,false] R),Th.ext (Dk.shr 1 B.length (tbE B))=Th.ext (Dk.shr 1 B.length (tbE B)),Th.ext (Dk.shr 1 7 (tbE B))=Th.ext (Dk.shr 1 7 (tbE B)),Th.ext (Dk.tab (TB.bs B2))=Th.ext (Dk.tab (TB.bs B2))],by kernel_rfl,(by refine mcons ?_ (mcons ?_ (mcons ?_ (mcons ?_ (mcons ?_ mnil))))<;>first|rfl|exact h0|trivial|(exact congrArg _ h1)|(exact h2)|(exact ⟨h2.1,Nat.lt_of_lt_of_le h2.2 h4⟩)|(exact h2)|(exact congrArg (! ·) h3))⟩
set_option maxRecDepth 100000 in
theorem bk11_lpA (R:List Rw) (B B2:List (List UInt8)) (hL:(TB.bs B2).n≤100000) (x0:B2.length≤7) (hall:∀ i:Int,0≤i→i.toNat<(TB.bs B2).n→eqV B B2 (i)=true) {W0:World} {G:Nat→Prop} (S0:Sy Td) (hS0:S0.P=Try.prog):LoopSound S0 Id' W0 G 85 (hdC (loopsC (bodyOf Try.f9)) 0) (lpG Id' 85 (hdC (loopsC (bodyOf Try.f9)) 0) 8 [(13,.c (.one (.v (.int .i64 ((0+0:Nat):Int)))))] [(11,.c (.one (.obj 7))),(1,.c (.one (.obj 5)))] [⟨.us (.ext (.vw [true,false,false,false] R)),false⟩,⟨.us (.ext (.shr 1 B.length (tbE B))),false⟩,⟨.dead,true⟩,⟨.dead,true⟩,⟨.dead,true⟩,⟨.us (.ext (.shr 1 7 (tbE B))),false⟩,⟨.dead,true⟩,⟨.us (.ext (.tab (.bs B2))),true⟩] (.leaf (.exit 0) [] [⟨.us (.ext (.vw [true,false,false,false] R)),false⟩,⟨.us (.ext (.shr 1 B.length (tbE B))),false⟩,⟨.dead,true⟩,⟨.dead,true⟩,⟨.dead,true⟩,⟨.us (.ext (.shr 1 7 (tbE B))),false⟩,⟨.dead,true⟩,⟨.us (.ext (.tab (.bs B2))),true⟩])):=by
 refine lp_sound (V:=fun k=>[(13,.c (.one (.v (.int .i64 ((k+0:Nat):Int)))))]) (M:=(fun k=>[⟨.us (.ext (.vw [true,false,false,false] R)),false⟩,⟨.us (.ext (.shr 1 B.length (tbE B))),false⟩,⟨.dead,true⟩,⟨.dead,true⟩,⟨.dead,true⟩,⟨.us (.ext (.shr 1 7 (tbE B))),false⟩,⟨.dead,true⟩,⟨.us (.ext (.tab (.bs B2))),true⟩]:Nat→Mem Td)) (N:=(TB.bs B2).n) (Ux:=fun k x=>match x with|.exit 0=>some ([],([⟨.us (.ext (.vw [true,false,false,false] R)),false⟩,⟨.us (.ext (.shr 1 B.length (tbE B))),false⟩,⟨.dead,true⟩,⟨.dead,true⟩,⟨.dead,true⟩,⟨.us (.ext (.shr 1 7 (tbE B))),false⟩,⟨.dead,true⟩,⟨.us (.ext (.tab (.bs B2))),true⟩]:Mem Td))|_=>none) (X:=fun _ _=>True) (J:=fun k=>True) (fun k=>by kernel_rfl) trivial (fun k hk hJ f=>?_) (fun K hK k x U hk hU hX=>?_)
 ·rw [hS0]
  cases hT:decide (((k+0:Nat):Int)<((TB.bs B2).n:Int)) with
  |false=>
   (obtain ⟨ps,g1,g2⟩:=bk11_x R B B2 ((k+0:Nat):Int) ((k+1+0:Nat):Int) k f hT;exact rnd_x (⟨Try.prog,[F_rsame (ξ:=Dk)],[],dkHo,Id'.one,60⟩:Sy Td) [(100018,qG (⟨Try.prog,[F_rsame (ξ:=Dk)],[],dkHo,Id'.one,60⟩:Sy Td) 85 (opsQ 18 (bodyOf Try.f9)))] rfl ((fun (W0:World) (G:Nat→Prop)=>SyOk.mk2 Try.mixed dkHo_ok (FnsR.cons (F_rsame_ok (J:=dkI) (hx:=hardDk)) (FnsR.nil)) EqsOk.nil) W0 G) (LpsOk.cons (by kernel_rfl) (qG_sound (id:=18) ((fun (W0:World) (G:Nat→Prop)=>SyOk.mk2 Try.mixed dkHo_ok (FnsR.cons (F_rsame_ok (J:=dkI) (hx:=hardDk)) (FnsR.nil)) EqsOk.nil) W0 G) rfl rfl (by kernel_rfl)) (LpsOk.nil _)) (m2:=_) (fun w e h=>h) [false] 0 ps g1 g2 rfl trivial)
  |true=>
   have hk1:=of_decide_eq_true hT
   have hW:IntKind.i64.wrap (((k+0:Nat):Int)+1)=((k+1+0:Nat):Int):=by rw [IntWalk.i64_in _ (by omega)];omega
   (obtain ⟨ps,g1,g2⟩:=bk11_n R B B2 ((k+0:Nat):Int) ((k+1+0:Nat):Int) k f hT hW (by omega) (hall _ (by omega) (by omega)) x0;exact rnd_n (⟨Try.prog,[F_rsame (ξ:=Dk)],[],dkHo,Id'.one,60⟩:Sy Td) [(100018,qG (⟨Try.prog,[F_rsame (ξ:=Dk)],[],dkHo,Id'.one,60⟩:Sy Td) 85 (opsQ 18 (bodyOf Try.f9)))] rfl ((fun (W0:World) (G:Nat→Prop)=>SyOk.mk2 Try.mixed dkHo_ok (FnsR.cons (F_rsame_ok (J:=dkI) (hx:=hardDk)) (FnsR.nil)) EqsOk.nil) W0 G) (LpsOk.cons (by kernel_rfl) (qG_sound (id:=18) ((fun (W0:World) (G:Nat→Prop)=>SyOk.mk2 Try.mixed dkHo_ok (FnsR.cons (F_rsame_ok (J:=dkI) (hx:=hardDk)) (FnsR.nil)) EqsOk.nil) W0 G) rfl rfl (by kernel_rfl)) (LpsOk.nil _)) (m2:=_) (fun w e h=>h) [true,false] ps g1 g2 rfl rfl (by omega) trivial)
 ·revert hU
  match x with
  |.exit 0=>intro hU;simp only [Option.some.injEq] at hU;subst hU;exact hK
  |.normal=>intro hU;cases hU
  |.ret=>intro hU;cases hU
  |.exit (n+1)=>intro hU;cases hU
end Go.Proofs.Ytdenmoiaiemokaa
set_option linter.unusedVariables false
set_option linter.unusedSimpArgs false
namespace Go.Proofs.Ytdenmoiaiemokaa
open Go.RowKit
section
variable {W0:World} {G:Nat→Prop} {sz:Nat}
end
end Go.Proofs.Ytdenmoiaiemokaa
set_option linter.unusedVariables false
set_option linter.unusedSimpArgs false
namespace Go.Proofs.Ytdenmoiaiemokaa
open Go.RowKit
end Go.Proofs.Ytdenmoiaiemokaa
set_option linter.unusedVariables false
set_option linter.unusedSimpArgs false
namespace Go.Proofs.Ytdenmoiaiemokaa
open Go.RowKit
theorem deR_len (L:List (List UInt8)):(deR L).length≤5 * L.length:=by
 unfold deR
 cases deOk L with
 |true=>exact stO_len L L.length
 |false=>exact Nat.zero_le _
end Go.Proofs.Ytdenmoiaiemokaa
set_option linter.unusedVariables false
set_option linter.unusedSimpArgs false
namespace Go.Proofs.Ytdenmoiaiemokaa
open Go.RowKit Go.ChangeShapes Go.WideShapes Go.ChangeAt
section
variable {H:Type} {enc:TypeId×Value→H} {P:Program} {W:World}
theorem mem_weightsAll {e:TypeId} {d:DataW H} {n:Nat}:∀ {ds:List (DataW H)},d∈ds→n∈d.weights P e→n∈DataW.weightsAll P e ds
 |[],h,_=>by cases h
 |d0::ds,h,hn=>by
  rw [DataW.weightsAll]
  rcases List.mem_cons.1 h with rfl|h
  ·exact List.mem_append_left _ hn
  ·exact List.mem_append_right _ (mem_weightsAll h hn)
theorem bytes_weigh {t e:TypeId} {cs:List Value} {fuel:Nat} {x:DataW H×List MemPlace} (ht:P.underlying t=some (.slice e)) (he:P.underlying e=some (.int .u8)) (hc:P.cellsOf e=1) (h1:P.bytesOf e=1)
  (h:DataW.trod enc P W 0 (fun _=>true) true fuel t cs=some x) {K:Nat} (hw:∀ n∈x.1.weights P t,n≤K) {ao:Option Addr} {len cap:Nat} (hcs:cs=[.slice ao len cap]):len≤K:=by
 rcases open_ints ht he hc h with ⟨hcs',_⟩|⟨a,len',cap',zs,hcs',_,hl,hm,hz,hx,hcell,hwf⟩
 ·rw [hcs] at hcs'
  simp only [List.cons.injEq,Value.slice.injEq,and_true] at hcs'
  omega
 ·rw [hcs] at hcs'
  simp only [List.cons.injEq,Value.slice.injEq,and_true] at hcs'
  obtain ⟨_,rfl,rfl⟩:=hcs'
  simp only [if_true] at hz
  have h2:=hw ((zs.take len).length+(zs.drop len).length) (by
   rw [hx]
   show _∈DataW.weights P t (DataW.slice _ _)
   rw [DataW.weights,ht]
   simp [lits,h1])
  simp at h2
  omega
theorem read_sliceZ {t e:TypeId} {c:Nat} {cs:List Value} {fuel:Nat} {x:DataW H×List MemPlace} (ht:P.underlying t=some (.slice e)) (hc:P.cellsOf e=c) (h0:0<c)
  (h:DataW.trod enc P W 0 (fun _=>true) true fuel t cs=some x):
  ∃ ao len cap,cs=[.slice ao len cap]∧len≤cap∧cap≤9223372036854775807∧(ao=none→cap=0)∧∀ i,i<len→∃ b o cs' fuel' y,ao=some ⟨b,o,none⟩∧cs'.length=c∧
   (∀ j,j<c→W.cell? ⟨b,o+i * c+j,none⟩=cs'[j]?)∧DataW.trod enc P W 0 (fun _=>true) true fuel' e cs'=some y∧∀ n∈y.1.weights P e,n∈x.1.weights P t:=by
 rcases Go.Deep.open_slice ht h with ⟨hcs,_⟩|⟨a,len,cap,m,n,D,Pl,hcs,_,hl,hm,hmm,hx,hel⟩
 ·exact ⟨none,0,0,hcs,Nat.le_refl _,by decide,fun _=>rfl,fun i hi=>absurd hi (by omega)⟩
 ·refine ⟨some a,len,cap,hcs,hl,hm,(fun h=>by cases h),fun i hi=>?_⟩
  simp only [if_true] at hmm
  obtain ⟨cs',h1,h2⟩:=hel i (by omega)
  rw [hc] at h1
  obtain ⟨h3,h4⟩:=cells_get h1
  obtain ⟨b,o,sp⟩:=a
  have hsp:sp=none:=by
   obtain ⟨cs0,g1,g2⟩:=hel 0 (by omega)
   rw [hc,Nat.zero_mul,add_zero'] at g1
   obtain ⟨g3,g4⟩:=cells_get g1
   have h5:=g4 0 h0
   rw [add_zero'] at h5
   rw [List.getElem?_eq_getElem (by omega)] at h5
   cases sp with
   |none=>rfl
   |some s=>
    exfalso
    unfold World.cell? at h5
    split at h5<;>simp at h5
  subst hsp
  refine ⟨b,o,cs',n,_,rfl,h3,fun j hj=>?_,h2,fun q hq=>?_⟩
  ·rw [← h4 j hj,add_add']
   congr 1
   unfold Addr.add
   split
   all_goals (first|(simp;done)|(simp [Nat.add_assoc];done)|(simp;omega))
  ·rw [hx]
   show q∈DataW.weights P t (DataW.slice _ _)
   rw [DataW.weights,ht]
   refine List.mem_cons_of_mem _ (List.mem_append_left _ (mem_weightsAll (List.mem_map.2 ⟨i,List.mem_range.2 hi,rfl⟩) hq))
end
section
variable {H:Type} {enc:TypeId×Value→H} {W:World}
theorem read_rowsBZ {cs:List Value} {fuel:Nat} {x:DataW H×List MemPlace} (h:DataW.trod enc Try.prog W 0 (fun _=>true) true fuel 95 cs=some x):∃ v l,cs=[v]∧RowsIs W v l∧∀ K,(∀ n∈x.1.weights Try.prog 95,n≤K)→∀ b∈l,b.length≤K:=by
 obtain ⟨ao,len,cap,rfl,h1,h2,h3,h4⟩:=read_sliceZ (c:=1) Try.underlying95 (by kernel_rfl) (by decide) h
 obtain ⟨ds,hl,hd⟩:=list_of_lt (p:=fun i (d:Value×List UInt8)=>∃ b o,ao=some ⟨b,o,none⟩∧W.cell? ⟨b,o+i,none⟩=some d.1∧Bs W d.1 d.2∧∀ K,(∀ n∈x.1.weights Try.prog 95,n≤K)→d.2.length≤K) len fun i hi=>by
  obtain ⟨b,o,cs',f,y,e1,e2,e3,e4,e5⟩:=h4 i hi
  obtain ⟨a,p,l,rfl,hb⟩:=read_bytes Try.underlying29 Try.underlying5 (by kernel_rfl) e4
  refine ⟨(_,l),b,o,e1,?_,hb,fun K hK=>bytes_weigh Try.underlying29 Try.underlying5 (by kernel_rfl) (by kernel_rfl) e4 (fun n hn=>hK n (e5 n hn)) rfl⟩
  have:=e3 0 (by decide)
  simpa using this
 have hll:(ds.map (·.2)).length=len:=by rw [List.length_map];exact hl
 refine ⟨_,ds.map (·.2),rfl,⟨by decide,ds.map (·.1),⟨by rw [List.length_map,hl,hll,Nat.mul_one],ao,cap,by rw [hll],by rw [hll];exact h1,h2,h3,fun a ha p u hu=>?_⟩,fun i j c v hi hj hc hv=>?_⟩,fun K hK b hb=>?_⟩
 ·rw [List.getElem?_map] at hu
  cases hq:ds[p]? with
  |none=>rw [hq] at hu;cases hu
  |some d=>
   rw [hq] at hu
   cases hu
   obtain ⟨b,o,e,hc,_⟩:=hd p d hq
   subst ha
   cases e
   rw [Addr.add_mid]
   exact hc
 ·obtain rfl:j=0:=by omega
  simp only [tbE,List.getElem?_cons_zero,Option.some.injEq] at hc
  subst hc
  rw [Nat.mul_one,Nat.add_zero,List.getElem?_map] at hv
  cases hq:ds[i]? with
  |none=>rw [hq] at hv;cases hv
  |some d=>
   rw [hq] at hv
   cases hv
   obtain ⟨_,_,_,_,hb,_⟩:=hd i d hq
   show Bs W d.1 ((ds.map (·.2)).getD i [])
   rw [List.getD_eq_getElem?_getD,List.getElem?_map,hq]
   exact hb
 ·obtain ⟨d,hd1,rfl⟩:=List.mem_map.1 hb
  obtain ⟨i,hi,hq⟩:=List.mem_iff_getElem.1 hd1
  obtain ⟨_,_,_,_,_,hw⟩:=hd i d (by rw [List.getElem?_eq_getElem hi,hq])
  exact hw K hK
end
end Go.Proofs.Ytdenmoiaiemokaa
