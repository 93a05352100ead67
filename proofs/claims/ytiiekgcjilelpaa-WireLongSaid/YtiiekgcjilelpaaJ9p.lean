/- J7 J9. -/
import Derived.Test.YtiiekgcjilelpaaJ6p
import Derived.Test.YtiiekgcjilelpaaJ2p
import Derived.Test.YtiiekgcjilelpaaF2p
set_option linter.unusedSimpArgs false
set_option linter.unusedVariables false
namespace Go.Proofs.Ytiiekgcjilelpaa
open Go.RowKit
set_option maxRecDepth 100000 in
theorem lv17_w0  :∃ qs,wayO Id' ([]:Mem Td).length [] (svV (.bool true)) ((runFn (⟨Try.prog,[(34,ctrF Id' C_encR hardD),(38,ctrF Id' (wkC C_decR) hardD)],[E_of Try.prog 29],dkHo,Id'.one,60⟩:Sy Td) [] Try.f36 [] []).al [])=some qs∧∀ q∈qs,q:=
 ⟨[false=false,(0:Int)≤(1:Int)∧(1:Int)<(18446744073709551616:Int),(0:Int)≤(0:Int)∧(0:Int)<(18446744073709551616:Int),(0:Int)≤(1:Int)∧(1:Int)<(18446744073709551616:Int),true=true,false=false,(fiW (hdW (3:Int) (0:Int) (1:Int) (0:Int) (1:Int) (0:Int) (0:Int)) (2:Int) (1:Int)).out.length≤(100000:Nat),true=true,false=false,(0:Int)≤hSs (RS.new (fiW (hdW (3:Int) (0:Int) (1:Int) (0:Int) (1:Int) (0:Int) (0:Int)) (2:Int) (1:Int)).out)∧hSs (RS.new (fiW (hdW (3:Int) (0:Int) (1:Int) (0:Int) (1:Int) (0:Int) (0:Int)) (2:Int) (1:Int)).out)<(18446744073709551616:Int),(0:Int)≤hSq (RS.new (fiW (hdW (3:Int) (0:Int) (1:Int) (0:Int) (1:Int) (0:Int) (0:Int)) (2:Int) (1:Int)).out)∧hSq (RS.new (fiW (hdW (3:Int) (0:Int) (1:Int) (0:Int) (1:Int) (0:Int) (0:Int)) (2:Int) (1:Int)).out)<(18446744073709551616:Int),(0:Int)≤hBo (RS.new (fiW (hdW (3:Int) (0:Int) (1:Int) (0:Int) (1:Int) (0:Int) (0:Int)) (2:Int) (1:Int)).out)∧hBo (RS.new (fiW (hdW (3:Int) (0:Int) (1:Int) (0:Int) (1:Int) (0:Int) (0:Int)) (2:Int) (1:Int)).out)<(18446744073709551616:Int),false=false,(En.mk (Ob.us (Th.own (fiW (hdW 3 0 1 0 1 0 0) 2 1).out)) true:En Td)=En.mk (Ob.us (Th.own (fiW (hdW 3 0 1 0 1 0 0) 2 1).out)) true,Value.bool true=Value.bool true],by kernel_rfl,(by refine mcons ?_ (mcons ?_ (mcons ?_ (mcons ?_ (mcons ?_ (mcons ?_ (mcons ?_ (mcons ?_ (mcons ?_ (mcons ?_ (mcons ?_ (mcons ?_ (mcons ?_ (mcons ?_ (mcons ?_ mnil))))))))))))))<;>first|(with_reducible rfl)|(decide +kernel))⟩
def C_lv17:Ctr Td:=fun us sub=>match us,sub with
 |[],[]=>some ([],svV (.bool true),[])
 |_,_=>none
set_option maxRecDepth 100000 in
theorem C_lv17_ok:CtrOk Try.prog Id' 36 C_lv17:=by
 intro us sub ps x sm h hp w e vs hM ha
 unfold C_lv17 at h
 split at h
 ·skip
  simp only [Option.some.injEq,Prod.mk.injEq] at h
  obtain ⟨rfl,rfl,rfl⟩:=h
  exact ctr_way (I:=Id') (fun (W0:World) (G:Nat→Prop)=>SyOk.mk2 Try.mixed dkHo_ok (FnsR.cons (R_encR) (FnsR.cons (RW_decR) (FnsR.nil))) (E_of_ok (by kernel_rfl) (EqsOk.nil))) rfl Try.func36 (by kernel_rfl) (fun W0 G=>LpsOk.nil _) (cs:=[]) (by kernel_rfl) (lv17_w0  ) w e vs hM ha
 ·cases h
theorem R_lv17:RowOk Try.prog Id' hardD 36 (ctrF Id' C_lv17 hardD):=ctrF_ok Try.call36 C_lv17_ok
theorem z_bits:∀ n:Nat,bitsAll (List.replicate n (0:UInt8))=List.replicate (8 * n) false
 |0=>rfl
 |n+1=>by
  have h:bitsAll (List.replicate (n+1) (0:UInt8))=List.replicate 8 false++bitsAll (List.replicate n (0:UInt8)):=rfl
  rw [h,z_bits n,List.replicate_append_replicate]
  congr 1
  omega
theorem z_val:∀ k:Nat,val (List.replicate k false)=0
 |0=>rfl
 |k+1=>(show valGo 0 (List.replicate k false)=0 from z_val k)
def zR (n a:Nat):RS:=⟨List.replicate n 0,a,0⟩
theorem z_get {n a k:Nat} (hk:k≤64) (h:a+k≤8 * n):(zR n a).get (k:Int)=zR n (a+k)∧(zR n a).num (k:Int)=0:=by
 obtain ⟨h1,h2⟩:=RS.get_ok (s:=zR n a) (n:=k) rfl hk (by show a+k≤8 * (List.replicate n (0:UInt8)).length;rw [List.length_replicate];exact h)
 refine ⟨h1,?_⟩
 rw [h2]
 show val (((bitsAll (List.replicate n (0:UInt8))).drop a).take k)=0
 rw [z_bits,List.drop_replicate,List.take_replicate]
 exact z_val _
theorem z_head {n:Nat} (hn:100≤n):hTy (RS.new (List.replicate n 0))=0∧hCl (RS.new (List.replicate n 0))=0∧hSs (RS.new (List.replicate n 0))=0∧hSq (RS.new (List.replicate n 0))=0∧hBo (RS.new (List.replicate n 0))=0∧hKd (RS.new (List.replicate n 0))=0∧hEr (RS.new (List.replicate n 0))=0:=by
 have e0:RS.new (List.replicate n 0)=zR n 0:=rfl
 obtain ⟨g1,v1⟩:=z_get (n:=n) (a:=0) (k:=2) (by omega) (by omega)
 obtain ⟨g2,v2⟩:=z_get (n:=n) (a:=0+2) (k:=3) (by omega) (by omega)
 obtain ⟨g3,v3⟩:=z_get (n:=n) (a:=0+2+3) (k:=40) (by omega) (by omega)
 obtain ⟨g4,v4⟩:=z_get (n:=n) (a:=0+2+3+40) (k:=40) (by omega) (by omega)
 obtain ⟨g5,v5⟩:=z_get (n:=n) (a:=0+2+3+40+40) (k:=40) (by omega) (by omega)
 obtain ⟨g6,v6⟩:=z_get (n:=n) (a:=0+2+3+40+40+40) (k:=4) (by omega) (by omega)
 obtain ⟨g7,v7⟩:=z_get (n:=n) (a:=0+2+3+40+40+40+4) (k:=5) (by omega) (by omega)
 have c2:((2:Nat):Int)=2:=rfl
 have c3:((3:Nat):Int)=3:=rfl
 have c40:((40:Nat):Int)=40:=rfl
 have c4:((4:Nat):Int)=4:=rfl
 have c5:((5:Nat):Int)=5:=rfl
 rw [c2] at g1 v1
 rw [c3] at g2 v2
 rw [c40] at g3 v3 g4 v4 g5 v5
 rw [c4] at g6 v6
 rw [c5] at g7 v7
 rw [e0]
 unfold hTy hCl hSs hSq hBo hKd hEr
 rw [g1,g2,g3,g4,g5,g6,v1,v2,v3,v4,v5,v6,v7]
 exact ⟨by decide,by decide,rfl,rfl,rfl,by decide,by decide⟩
theorem z_check:(Mm.checkI (⟨0,0,0,0,0,0,0,0,0,0,0,⟨#[]⟩,⟨#[]⟩,0,0,⟨#[]⟩,0,ents []⟩:Mm.Msg) != 0)=true:=by decide +kernel
theorem z_same:Mm.sameR (⟨0,0,0,0,0,0,0,0,0,0,0,⟨#[]⟩,⟨#[]⟩,0,0,⟨#[]⟩,0,ents []⟩:Mm.Msg) (⟨0,0,0,0,0,0,0,0,0,0,0,⟨#[]⟩,⟨#[]⟩,0,0,⟨#[]⟩,0,ents []⟩:Mm.Msg)=true:=by decide +kernel
end Go.Proofs.Ytiiekgcjilelpaa
