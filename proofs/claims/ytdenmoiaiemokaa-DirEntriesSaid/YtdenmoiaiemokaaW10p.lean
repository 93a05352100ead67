/- W10. -/
import Derived.Test.YtdenmoiaiemokaaW9p
set_option linter.unusedVariables false
set_option linter.unusedSimpArgs false
namespace Go.Proofs.Ytdenmoiaiemokaa
open Go.RowKit
def byteAt (s:ByteArray) (k:Nat):UInt8:=s.data.toList.getD k 0
def badB (x:UInt8):Bool:=decide ((x.toNat:Int)≤32)||decide ((x.toNat:Int)≥127)||(x.toNat:Int)==47
def goodsB (s:ByteArray):Bool:=s.data.toList.all fun x=>!badB x
def nameB (s:ByteArray):Bool:=goodsB s&&(decide ((s.size:Int)>0)&&decide ((s.size:Int)<17)&&(!(s.toList==(⟨#[46]⟩:ByteArray).toList))&&(!(s.toList==(⟨#[46,46]⟩:ByteArray).toList)))
theorem goods_bad {s:ByteArray} {k:Nat} (h:k<s.size) (hb:badB (byteAt s k)=true):goodsB s=false:=by
 unfold goodsB
 rw [List.all_eq_false]
 have hk:k<s.data.toList.length:=by simpa using h
 exact ⟨s.data.toList[k],List.getElem_mem hk,by simpa [byteAt,List.getD,List.getElem?_eq_getElem hk] using hb⟩
theorem goods_all {s:ByteArray} (h:∀ k,k<s.size→badB (byteAt s k)=false):goodsB s=true:=by
 unfold goodsB
 rw [List.all_eq_true]
 intro x hx
 obtain ⟨k,hk,rfl⟩:=List.getElem_of_mem hx
 have:=h k (by simpa using hk)
 simpa [byteAt,List.getD,List.getElem?_eq_getElem hk] using this
def oddB (x:Int):Bool:=decide (x<33)||decide (x>126)||x==47
set_option maxRecDepth 100000 in
theorem nis_n (s:ByteArray) (i i2:Int) (k:Nat) (f:Nat→Value) (h0:decide (i<(s.size:Int))=true) (h1:IntKind.i64.wrap (i+1)=i2) (h2:0≤i∧i.toNat<s.size) (h3:(!badB (byteAt s (i).toNat))=true):∃ qs,alN Id' 0 [(3,.c (.one (.v (.int .i64 i2))))] ([]:Mem Td) ((symC (⟨Try.prog,[],[],dkHo,Id'.one,60⟩:Sy Td) [] 42 (hdC (loopsC (bodyOf Try.f175)) 0) ⟨[(3,.c (.one (.v (.int .i64 i))))]++anyB' (writesC (hdC (loopsC (bodyOf Try.f175)) 0)) ([(0,.c (.one (.v (.string s))))]++tabV f 42),([]:Mem Td),0⟩).al [true,false])=some qs∧∀ q∈qs,q:=
 ⟨[decide (i<(↑s.size:Int))=true,(!(decide ((↑(s.data.toList.getD i.toNat (0:UInt8)).toNat:Int)≤(32:Int))||decide ((↑(s.data.toList.getD i.toNat (0:UInt8)).toNat:Int)≥(127:Int)))&&true)=true→(0:Int)≤i∧i.toNat<s.size,(!decide ((↑(s.data.toList.getD i.toNat (0:UInt8)).toNat:Int)≤(32:Int))&&true)=true→(0:Int)≤i∧i.toNat<s.size,(0:Int)≤i∧i.toNat<s.size,(decide ((↑(s.data.toList.getD i.toNat (0:UInt8)).toNat:Int)≤(32:Int))||decide ((↑(s.data.toList.getD i.toNat (0:UInt8)).toNat:Int)≥(127:Int))||(↑(s.data.toList.getD i.toNat (0:UInt8)).toNat:Int)==(47:Int))=false,Value.int IntKind.i64 (IntKind.i64.wrap (i+(1:Int)))=Value.int IntKind.i64 i2],by kernel_rfl,(by refine mcons ?_ (mcons ?_ (mcons ?_ (mcons ?_ (mcons ?_ (mcons ?_ mnil)))))<;>first|rfl|exact h0|exact h1|exact h2|exact h3|trivial|(exact congrArg _ h1)|(exact h2)|(exact h2)|(exact fun _=>h2)|(exact Bool.not_inj (h3:_=!false))|(simpa using h3)|(have:=h3;simp only [Bool.not_eq_eq_eq_not,Bool.not_true,Bool.not_false] at this;exact this))⟩
set_option maxRecDepth 100000 in
theorem nis_x (s:ByteArray) (i i2:Int) (k:Nat) (f:Nat→Value) (h0:decide (i<(s.size:Int))=false):∃ qs,alX Id' 0 0 [] ([]:Mem Td) ((symC (⟨Try.prog,[],[],dkHo,Id'.one,60⟩:Sy Td) [] 42 (hdC (loopsC (bodyOf Try.f175)) 0) ⟨[(3,.c (.one (.v (.int .i64 i))))]++anyB' (writesC (hdC (loopsC (bodyOf Try.f175)) 0)) ([(0,.c (.one (.v (.string s))))]++tabV f 42),([]:Mem Td),0⟩).al [false])=some qs∧∀ q∈qs,q:=
 ⟨[decide (i<(↑s.size:Int))=false],by kernel_rfl,(by refine mcons ?_ mnil<;>first|rfl|exact h0|trivial|(exact congrArg _ h1)|(exact h2)|(exact h2)|(exact fun _=>h2)|(exact Bool.not_inj (h3:_=!false))|(simpa using h3)|(have:=h3;simp only [Bool.not_eq_eq_eq_not,Bool.not_true,Bool.not_false] at this;exact this))⟩
set_option maxRecDepth 100000 in
theorem nis_r (s:ByteArray) (i i2:Int) (k:Nat) (f:Nat→Value) (h0:decide (i<(s.size:Int))=true) (h1:IntKind.i64.wrap (i+1)=i2) (h2:0≤i∧i.toNat<s.size) (h3:(!badB (byteAt s (i).toNat))=false):∃ qs,alR Id' 0 [(2,.c (.one (.kB false)))] ([]:Mem Td) ((symC (⟨Try.prog,[],[],dkHo,Id'.one,60⟩:Sy Td) [] 42 (hdC (loopsC (bodyOf Try.f175)) 0) ⟨[(3,.c (.one (.v (.int .i64 i))))]++anyB' (writesC (hdC (loopsC (bodyOf Try.f175)) 0)) ([(0,.c (.one (.v (.string s))))]++tabV f 42),([]:Mem Td),0⟩).al [true,true])=some qs∧∀ q∈qs,q:=
 ⟨[decide (i<(↑s.size:Int))=true,(!(decide ((↑(s.data.toList.getD i.toNat (0:UInt8)).toNat:Int)≤(32:Int))||decide ((↑(s.data.toList.getD i.toNat (0:UInt8)).toNat:Int)≥(127:Int)))&&true)=true→(0:Int)≤i∧i.toNat<s.size,(!decide ((↑(s.data.toList.getD i.toNat (0:UInt8)).toNat:Int)≤(32:Int))&&true)=true→(0:Int)≤i∧i.toNat<s.size,(0:Int)≤i∧i.toNat<s.size,(decide ((↑(s.data.toList.getD i.toNat (0:UInt8)).toNat:Int)≤(32:Int))||decide ((↑(s.data.toList.getD i.toNat (0:UInt8)).toNat:Int)≥(127:Int))||(↑(s.data.toList.getD i.toNat (0:UInt8)).toNat:Int)==(47:Int))=true,Value.bool false=Value.bool false],by kernel_rfl,(by refine mcons ?_ (mcons ?_ (mcons ?_ (mcons ?_ (mcons ?_ (mcons ?_ mnil)))))<;>first|rfl|exact h0|exact h1|exact h2|exact h3|trivial|(exact congrArg _ h1)|(exact h2)|(exact h2)|(exact fun _=>h2)|(exact Bool.not_inj (h3:_=!false))|(simpa using h3)|(have:=h3;simp only [Bool.not_eq_eq_eq_not,Bool.not_true,Bool.not_false] at this;exact this))⟩
set_option maxRecDepth 100000 in
theorem nis_lpA (s:ByteArray) (hL:s.size≤100000)  (hall:∀ i:Int,0≤i→i.toNat<s.size→(!badB (byteAt s (i).toNat))=true) {W0:World} {G:Nat→Prop} (S0:Sy Td) (hS0:S0.P=Try.prog):LoopSound S0 Id' W0 G 42 (hdC (loopsC (bodyOf Try.f175)) 0) (lpG Id' 42 (hdC (loopsC (bodyOf Try.f175)) 0) 0 [(3,.c (.one (.v (.int .i64 ((0+0:Nat):Int)))))] [(0,.c (.one (.v (.string s))))] ([]:Mem Td) (.leaf (.exit 0) [] ([]:Mem Td))):=by
 refine lp_sound (V:=fun k=>[(3,.c (.one (.v (.int .i64 ((k+0:Nat):Int)))))]) (M:=(fun k=>([]:Mem Td):Nat→Mem Td)) (N:=s.size) (Ux:=fun k x=>match x with|.exit 0=>some ([],(([]:Mem Td):Mem Td))|_=>none) (X:=fun _ _=>True) (J:=fun k=>True) (fun k=>by kernel_rfl) trivial (fun k hk hJ f=>?_) (fun K hK k x U hk hU hX=>?_)
 ·rw [hS0]
  cases hT:decide (((k+0:Nat):Int)<(s.size:Int)) with
  |false=>
   exact rnd_xD (⟨Try.prog,[],[],dkHo,Id'.one,60⟩:Sy Td) rfl ((fun (W0:World) (G:Nat→Prop)=>SyOk.mk2 Try.mixed dkHo_ok (FnsR.nil) EqsOk.nil) W0 G) (nis_x s ((k+0:Nat):Int) ((k+1+0:Nat):Int) k f hT) rfl trivial
  |true=>
   have hk1:=of_decide_eq_true hT
   have hW:IntKind.i64.wrap (((k+0:Nat):Int)+1)=((k+1+0:Nat):Int):=by rw [IntWalk.i64_in _ (by omega)];omega
   exact rnd_nD (⟨Try.prog,[],[],dkHo,Id'.one,60⟩:Sy Td) rfl ((fun (W0:World) (G:Nat→Prop)=>SyOk.mk2 Try.mixed dkHo_ok (FnsR.nil) EqsOk.nil) W0 G) (nis_n s ((k+0:Nat):Int) ((k+1+0:Nat):Int) k f hT hW (by omega) (hall _ (by omega) (by omega)) ) rfl rfl (by omega) trivial
 ·revert hU
  match x with
  |.exit 0=>intro hU;simp only [Option.some.injEq] at hU;subst hU;exact hK
  |.normal=>intro hU;cases hU
  |.ret=>intro hU;cases hU
  |.exit (n+1)=>intro hU;cases hU
set_option maxRecDepth 100000 in
theorem nis_lpR (s:ByteArray) (hL:s.size≤100000)  (hex:∃ i:Int,0≤i∧i.toNat<s.size∧(!badB (byteAt s (i).toNat))=false) {W0:World} {G:Nat→Prop} (S0:Sy Td) (hS0:S0.P=Try.prog):LoopSound S0 Id' W0 G 42 (hdC (loopsC (bodyOf Try.f175)) 0) (lpG Id' 42 (hdC (loopsC (bodyOf Try.f175)) 0) 0 [(3,.c (.one (.v (.int .i64 ((0+0:Nat):Int)))))] [(0,.c (.one (.v (.string s))))] ([]:Mem Td) (.leaf .ret [(2,.c (.one (.kB false)))] ([]:Mem Td))):=by
 refine lp_sound (V:=fun k=>[(3,.c (.one (.v (.int .i64 ((k+0:Nat):Int)))))]) (M:=(fun k=>([]:Mem Td):Nat→Mem Td)) (N:=s.size) (Ux:=fun k x=>match x with|.ret=>some ([(2,.c (.one (.kB false)))],(([]:Mem Td):Mem Td))|_=>none) (X:=fun _ _=>True) (J:=fun k=>∀ i:Int,0≤i→i<((k+0:Nat):Int)→(!badB (byteAt s (i).toNat))=true) (fun k=>by kernel_rfl) (fun i h0 h1=>by omega) (fun k hk hJ f=>?_) (fun K hK k x U hk hU hX=>?_)
 ·rw [hS0]
  cases hT:decide (((k+0:Nat):Int)<(s.size:Int)) with
  |false=>
   obtain ⟨j,j0,j1,j2⟩:=hex
   have:=of_decide_eq_false hT
   rw [hJ j j0 (by omega)] at j2
   cases j2
  |true=>
   have hk1:=of_decide_eq_true hT
   have hW:IntKind.i64.wrap (((k+0:Nat):Int)+1)=((k+1+0:Nat):Int):=by rw [IntWalk.i64_in _ (by omega)];omega
   cases hq:(!badB (byteAt s (((k+0:Nat):Int)).toNat)) with
   |true=>exact rnd_nD (⟨Try.prog,[],[],dkHo,Id'.one,60⟩:Sy Td) rfl ((fun (W0:World) (G:Nat→Prop)=>SyOk.mk2 Try.mixed dkHo_ok (FnsR.nil) EqsOk.nil) W0 G) (nis_n s ((k+0:Nat):Int) ((k+1+0:Nat):Int) k f hT hW (by omega) hq ) rfl rfl (by omega) (fun i h0 h1=>by
     by_cases he:i=((k+0:Nat):Int)
     ·subst he;exact hq
     ·exact hJ i h0 (by omega))
   |false=>exact rnd_rD (⟨Try.prog,[],[],dkHo,Id'.one,60⟩:Sy Td) rfl ((fun (W0:World) (G:Nat→Prop)=>SyOk.mk2 Try.mixed dkHo_ok (FnsR.nil) EqsOk.nil) W0 G) (nis_r s ((k+0:Nat):Int) ((k+1+0:Nat):Int) k f hT hW (by omega) hq ) rfl trivial
 ·revert hU
  match x with
  |.ret=>intro hU;simp only [Option.some.injEq] at hU;subst hU;exact hK
  |.normal=>intro hU;cases hU
  |.exit n=>intro hU;cases hU
set_option maxRecDepth 100000 in
theorem nisA_w0 (s:ByteArray) (r:Bool) (h0:(decide ((s.size:Int)>0)&&decide ((s.size:Int)<17)&&(!(s.toList==(⟨#[46]⟩:ByteArray).toList))&&(!(s.toList==(⟨#[46,46]⟩:ByteArray).toList)))=r):∃ qs,wayO Id' (([]:Mem Td):Mem Td).length [] (svV (.bool r)) ((runFn (⟨Try.prog,[],[],dkHo,Id'.one,60⟩:Sy Td) [(2,(lpG Id' 42 (hdC (loopsC (bodyOf Try.f175)) 0) 0 [(3,.c (.one (.v (.int .i64 ((0+0:Nat):Int)))))] [(0,.c (.one (.v (.string s))))] ([]:Mem Td) (.leaf (.exit 0) [] ([]:Mem Td))))] Try.f175 [.one (.v (.string s))] ([]:Mem Td)).al [])=some qs∧∀ q∈qs,q:=
 ⟨[Value.string s=Value.string s,Value.int IntKind.i64 (Int.ofNat 0)=Value.int IntKind.i64 (Int.ofNat ((0:Nat)+(0:Nat))),Value.bool (decide ((↑s.size:Int)>(0:Int))&&decide ((↑s.size:Int)<(17:Int))&&!s.toList==(ByteArray.mk #[(46:UInt8)]).toList&&!s.toList==(ByteArray.mk #[(46:UInt8),(46:UInt8)]).toList)=Value.bool r],by kernel_rfl,(by refine mcons ?_ (mcons ?_ (mcons ?_ mnil))<;>first|rfl|exact h0|trivial|(exact congrArg _ h0))⟩
set_option maxRecDepth 100000 in
theorem nisR_w0 (s:ByteArray) :∃ qs,wayO Id' (([]:Mem Td):Mem Td).length [] (svV (.bool false)) ((runFn (⟨Try.prog,[],[],dkHo,Id'.one,60⟩:Sy Td) [(2,(lpG Id' 42 (hdC (loopsC (bodyOf Try.f175)) 0) 0 [(3,.c (.one (.v (.int .i64 ((0+0:Nat):Int)))))] [(0,.c (.one (.v (.string s))))] ([]:Mem Td) (.leaf .ret [(2,.c (.one (.kB false)))] ([]:Mem Td))))] Try.f175 [.one (.v (.string s))] ([]:Mem Td)).al [])=some qs∧∀ q∈qs,q:=
 ⟨[Value.string s=Value.string s,Value.int IntKind.i64 (Int.ofNat 0)=Value.int IntKind.i64 (Int.ofNat ((0:Nat)+(0:Nat))),Value.bool false=Value.bool false],by kernel_rfl,(by refine mcons ?_ (mcons ?_ (mcons ?_ mnil))<;>first|rfl|trivial)⟩
def C_nis:Ctr Td:=fun us sub=>match us,sub with
 |[.one (.v (.string s))],[]=>some ([s.size≤100000],svV (.bool (nameB s)),[])
 |_,_=>none
set_option maxRecDepth 100000 in
theorem C_nis_ok:CtrOk Try.prog Id' 175 C_nis:=by
 intro us sub ps x sm h hp w e vs hM ha
 unfold C_nis at h
 split at h
 ·rename_i s
  simp only [Option.some.injEq,Prod.mk.injEq] at h
  obtain ⟨rfl,rfl,rfl⟩:=h
  have hL:s.size≤100000:=hp _ (List.mem_cons_self ..)
  rcases allI_cases 0 s.size (fun i=>!badB (byteAt s i.toNat)) with ⟨ha0,hall⟩|⟨ha0,hex⟩
  ·have hv:nameB s=(decide ((s.size:Int)>0)&&decide ((s.size:Int)<17)&&(!(s.toList==(⟨#[46]⟩:ByteArray).toList))&&(!(s.toList==(⟨#[46,46]⟩:ByteArray).toList))):=by
    unfold nameB
    rw [goods_all fun k hk=>by have:=hall (k:Int) (by omega) (by simpa using hk);simpa using this];rfl
   rw [hv]
   exact ctr_way (I:=Id') (fun (W0:World) (G:Nat→Prop)=>SyOk.mk2 Try.mixed dkHo_ok (FnsR.nil) EqsOk.nil) rfl Try.func175 (by kernel_rfl) (fun _ _=>LpsOk.cons (by kernel_rfl) (nis_lpA s hL hall _ rfl) (LpsOk.nil _)) (cs:=[]) (by kernel_rfl) (nisA_w0 s _ rfl) w e vs hM ha
  ·have hv:nameB s=false:=by
    obtain ⟨i,h0,h1,h2⟩:=hex
    unfold nameB
    rw [goods_bad h1 (by simpa using h2)];rfl
   rw [hv]
   exact ctr_way (I:=Id') (fun (W0:World) (G:Nat→Prop)=>SyOk.mk2 Try.mixed dkHo_ok (FnsR.nil) EqsOk.nil) rfl Try.func175 (by kernel_rfl) (fun _ _=>LpsOk.cons (by kernel_rfl) (nis_lpR s hL hex _ rfl) (LpsOk.nil _)) (cs:=[]) (by kernel_rfl) (nisR_w0 s ) w e vs hM ha
 ·cases h
theorem R_nis:RowOk Try.prog Id' hardD 175 (ctrF Id' C_nis hardD):=ctrF_ok Try.call175 C_nis_ok
set_option maxRecDepth 100000 in
theorem odd_w0 (x:Int) :∃ qs,wayO Id' (([]:Mem Td):Mem Td).length [] (svV (.bool (oddB x))) ((runFn (⟨Try.prog,[],[],dkHo,Id'.one,60⟩:Sy Td) [] Try.f174 [.one (.v (.int .i32 x))] ([]:Mem Td)).al [])=some qs∧∀ q∈qs,q:=
 ⟨[Value.bool (decide (x<(33:Int))||decide (x>(126:Int))||x==(47:Int))=Value.bool (oddB x)],by kernel_rfl,(by refine mcons ?_ mnil<;>first|rfl|trivial)⟩
def C_odd:Ctr Td:=fun us sub=>match us,sub with
 |[.one (.v (.int .i32 x))],[]=>some ([],svV (.bool (oddB x)),[])
 |_,_=>none
set_option maxRecDepth 100000 in
theorem C_odd_ok:CtrOk Try.prog Id' 174 C_odd:=by
 intro us sub ps x sm h hp w e vs hM ha
 unfold C_odd at h
 split at h
 ·rename_i x
  simp only [Option.some.injEq,Prod.mk.injEq] at h
  obtain ⟨rfl,rfl,rfl⟩:=h
  exact ctr_way (I:=Id') (fun (W0:World) (G:Nat→Prop)=>SyOk.mk2 Try.mixed dkHo_ok (FnsR.nil) EqsOk.nil) rfl Try.func174 (by kernel_rfl) (fun _ _=>LpsOk.nil _) (cs:=[]) (by kernel_rfl) (odd_w0 x ) w e vs hM ha
 ·cases h
theorem odd_c (x:Int) (W:World):Calls Try.prog 174 #[.int .i32 x] W fun e w'=>e=.returned (.bool (oddB x))∧Ext W w':=by
 refine (C_odd_ok [.one (.v (.int .i32 x))] [] _ _ _ rfl (fun p hp=>by cases hp) W [] [.int .i32 x] (args_nil Id' W) ⟨rfl,trivial⟩).mono fun y w' ⟨u,e',h1,_,h2,h3⟩=>⟨h1.trans (congrArg _ h2),?_⟩
 exact h3.mod.mono fun k _ hk=>by
  obtain ⟨i,_,n,_,hn,hmu,_⟩:=footE.1 hk
  cases i<;>simp at hn
end Go.Proofs.Ytdenmoiaiemokaa
