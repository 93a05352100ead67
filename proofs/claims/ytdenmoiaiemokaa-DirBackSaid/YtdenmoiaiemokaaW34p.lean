/- W31 W32 W33 W34. -/
import Derived.Test.YtdenmoiaiemokaaW30p
set_option linter.unusedVariables false
set_option linter.unusedSimpArgs false
namespace Go.Proofs.Ytdenmoiaiemokaa
open Go.RowKit
set_option maxRecDepth 100000 in
theorem few_n (R X Y:List Rw) (n:Int) (i i2:Int) (k:Nat) (f:Nat→Value) (h0:(decide (i<(R.length:Int))&&decide (i<n))=true) (h1:IntKind.i64.wrap (i+1)=i2) (h2:0≤i∧i.toNat<R.length) (h3:X.length+1≤100000) (h4:X++[⟨[(R.getD i.toNat Rw.zero).is.getD 0 0,(R.getD i.toNat Rw.zero).is.getD 1 0,(R.getD i.toNat Rw.zero).is.getD 2 0],[shortT ((R.getD i.toNat Rw.zero).ss.getD 0 ⟨#[]⟩) 20]⟩]=Y):∃ qs,alN Id' 1 [(6,.c (.one (.v (.int .i64 i2)))),(5,.c (.one (.obj 1)))] [⟨.us (.ext (.vw [true,false,false,false] R)),false⟩,⟨.us (.ext (.flat (.rw 109 [true,false,false,false] Y))),true⟩] ((symC (⟨Try.prog,[F_rshort (ξ:=Dk)],[],dkHo,Id'.one,60⟩:Sy Td) [] 32 (hdC (loopsC (bodyOf Try.f57)) 0) ⟨[(6,.c (.one (.v (.int .i64 i)))),(5,.c (.one (.obj 1)))]++anyB' (writesC (hdC (loopsC (bodyOf Try.f57)) 0)) ([(0,.c (.one (.obj 0))),(1,.c (.one (.v (.int .i64 n))))]++tabV f 32),[⟨.us (.ext (.vw [true,false,false,false] R)),false⟩,⟨.us (.ext (.flat (.rw 109 [true,false,false,false] X))),true⟩],0⟩).al [true])=some qs∧∀ q∈qs,q:=
 ⟨[(decide (i<(↑R.length:Int))&&decide (i<n))=true,(0:Int)≤i∧i.toNat<R.length,(20:Nat)≤(9223372036854775807:Nat),X.length+[Rw.mk [(R.getD i.toNat Rw.zero).is.getD (0:Nat) (0:Int),(R.getD i.toNat Rw.zero).is.getD ((0:Nat)+(1:Nat)) (0:Int),(R.getD i.toNat Rw.zero).is.getD ((0:Nat)+(1:Nat)+(1:Nat)) (0:Int)] [shortT ((R.getD i.toNat Rw.zero).ss.getD (0:Nat) (ByteArray.mk #[])) 20]].length≤(100000:Nat),Th.ext (Dk.vw [true,false,false,false] R)=Th.ext (Dk.vw [true,false,false,false] R),(Th.ext (Dk.flat (FL.rw 109 [true,false,false,false] (X++[⟨[(R.getD i.toNat Rw.zero).is.getD 0 0,(R.getD i.toNat Rw.zero).is.getD 1 0,(R.getD i.toNat Rw.zero).is.getD 2 0],[shortT ((R.getD i.toNat Rw.zero).ss.getD 0 ⟨#[]⟩) 20]⟩]))):Td)=Th.ext (Dk.flat (FL.rw 109 [true,false,false,false] Y)),Value.int IntKind.i64 (IntKind.i64.wrap (i+(1:Int)))=Value.int IntKind.i64 i2],by kernel_rfl,(mcons h0 (mcons h2 (mcons (by decide) (mcons h3 (mcons rfl (mcons (congrArg (fun x=>(Th.ext (Dk.flat (FL.rw 109 [true,false,false,false] x)):Td)) h4) (mcons (congrArg (Value.int .i64) h1) mnil)))))))⟩
set_option maxRecDepth 100000 in
theorem few_x (R X Y:List Rw) (n:Int) (i i2:Int) (k:Nat) (f:Nat→Value) (h0:(decide (i<(R.length:Int))&&decide (i<n))=false) (h1:X=Y):∃ qs,alX Id' 1 0 [(5,.c (.one (.obj 1)))] [⟨.us (.ext (.vw [true,false,false,false] R)),false⟩,⟨.us (.ext (.flat (.rw 109 [true,false,false,false] Y))),true⟩] ((symC (⟨Try.prog,[F_rshort (ξ:=Dk)],[],dkHo,Id'.one,60⟩:Sy Td) [] 32 (hdC (loopsC (bodyOf Try.f57)) 0) ⟨[(6,.c (.one (.v (.int .i64 i)))),(5,.c (.one (.obj 1)))]++anyB' (writesC (hdC (loopsC (bodyOf Try.f57)) 0)) ([(0,.c (.one (.obj 0))),(1,.c (.one (.v (.int .i64 n))))]++tabV f 32),[⟨.us (.ext (.vw [true,false,false,false] R)),false⟩,⟨.us (.ext (.flat (.rw 109 [true,false,false,false] X))),true⟩],0⟩).al [false])=some qs∧∀ q∈qs,q:=
 ⟨[(decide (i<(↑R.length:Int))&&decide (i<n))=false,Th.ext (Dk.vw [true,false,false,false] R)=Th.ext (Dk.vw [true,false,false,false] R),Th.ext (Dk.flat (FL.rw 109 [true,false,false,false] X))=Th.ext (Dk.flat (FL.rw 109 [true,false,false,false] Y))],by kernel_rfl,(by refine mcons ?_ (mcons ?_ (mcons ?_ mnil))<;>first|rfl|exact h0|exact h1|trivial|(exact congrArg (fun x=>(Th.ext (Dk.flat (FL.rw 109 [true,false,false,false] x)):Td)) h1))⟩
def shR (r:Rw):Rw:=⟨[r.is.getD 0 0,r.is.getD 1 0,r.is.getD 2 0],[shortT (r.ss.getD 0 ⟨#[]⟩) 20]⟩
def fewK (R:List Rw):Nat→List Rw
 |0=>[]
 |k+1=>fewK R k++[shR (R.getD k Rw.zero)]
theorem fewK_len (R:List Rw):∀ k,(fewK R k).length=k
 |0=>rfl
 |k+1=>by simp [fewK,fewK_len R k]
def fewR (R:List Rw) (n:Int):List Rw:=fewK R (min R.length n.toNat)
set_option maxRecDepth 100000 in
theorem few_lp (R:List Rw) (n:Int) (hn:0≤n∧n≤1000) {W0:World} {G:Nat→Prop} (S0:Sy Td) (hS0:S0.P=Try.prog):LoopSound S0 Id' W0 G 32 (hdC (loopsC (bodyOf Try.f57)) 0) (lpG Id' 32 (hdC (loopsC (bodyOf Try.f57)) 0) 1 [(6,.c (.one (.v (.int .i64 ((0:Nat):Int))))),(5,.c (.one (.obj 1)))] [(0,.c (.one (.obj 0))),(1,.c (.one (.v (.int .i64 n))))] [⟨.us (.ext (.vw [true,false,false,false] R)),false⟩,⟨.us (.ext (.flat (.rw 109 [true,false,false,false] (fewK R 0)))),true⟩] (.leaf (.exit 0) [(5,.c (.one (.obj 1)))] [⟨.us (.ext (.vw [true,false,false,false] R)),false⟩,⟨.us (.ext (.flat (.rw 109 [true,false,false,false] (fewR R n)))),true⟩])):=by
 refine lp_sound (V:=fun k=>[(6,.c (.one (.v (.int .i64 (k:Int))))),(5,.c (.one (.obj 1)))]) (M:=(fun k=>[⟨.us (.ext (.vw [true,false,false,false] R)),false⟩,⟨.us (.ext (.flat (.rw 109 [true,false,false,false] (fewK R k)))),true⟩]:Nat→Mem Td)) (N:=min R.length n.toNat) (Ux:=fun k x=>match x with|.exit 0=>some ([(5,.c (.one (.obj 1)))],([⟨.us (.ext (.vw [true,false,false,false] R)),false⟩,⟨.us (.ext (.flat (.rw 109 [true,false,false,false] (fewR R n)))),true⟩]:Mem Td))|_=>none) (X:=fun _ _=>True) (J:=fun k=>k≤min R.length n.toNat) (fun k=>by kernel_rfl) (Nat.zero_le _) (fun k hk hJ f=>?_) (fun K hK k x U hk hU hX=>?_)
 ·rw [hS0]
  have hl:=fewK_len R k
  cases hT:(decide ((k:Int)<(R.length:Int))&&decide ((k:Int)<n)) with
  |false=>
   have hke:k=min R.length n.toNat:=by
    rw [Bool.and_eq_false_iff] at hT
    rcases hT with h|h<;> · have:=of_decide_eq_false h;omega
   exact rnd_xD (⟨Try.prog,[F_rshort (ξ:=Dk)],[],dkHo,Id'.one,60⟩:Sy Td) rfl ((fun (W0:World) (G:Nat→Prop)=>SyOk.mk2 Try.mixed dkHo_ok (FnsR.cons (F_rshort_ok (J:=dkI) (hx:=hardDk)) (FnsR.nil)) EqsOk.nil) W0 G) (few_x R (fewK R k) (fewR R n) n (k:Int) 0 k f hT (by rw [hke];rfl)) rfl trivial
  |true=>
   rw [Bool.and_eq_true] at hT
   have h1:=of_decide_eq_true hT.1
   have h2:=of_decide_eq_true hT.2
   have hW:IntKind.i64.wrap ((k:Int)+1)=((k+1:Nat):Int):=by rw [IntWalk.i64_in _ (by omega)];omega
   exact rnd_nD (⟨Try.prog,[F_rshort (ξ:=Dk)],[],dkHo,Id'.one,60⟩:Sy Td) rfl ((fun (W0:World) (G:Nat→Prop)=>SyOk.mk2 Try.mixed dkHo_ok (FnsR.cons (F_rshort_ok (J:=dkI) (hx:=hardDk)) (FnsR.nil)) EqsOk.nil) W0 G) (few_n R (fewK R k) (fewK R (k+1)) n (k:Int) ((k+1:Nat):Int) k f (by rw [hT.1,hT.2];rfl) hW (by omega) (by omega) (by rw [Int.toNat_natCast];rfl)) rfl rfl (by omega) (by omega)
 ·revert hU
  match x with
  |.exit 0=>intro hU;simp only [Option.some.injEq] at hU;subst hU;exact hK
  |.normal=>intro hU;cases hU
  |.ret=>intro hU;cases hU
  |.exit (n+1)=>intro hU;cases hU
end Go.Proofs.Ytdenmoiaiemokaa
set_option linter.unusedVariables false
set_option linter.unusedSimpArgs false
namespace Go.Proofs.Ytdenmoiaiemokaa
open Go.RowKit
set_option maxRecDepth 100000 in
theorem few_w0 (R:List Rw) (n:Int) :∃ qs,wayO Id' ([⟨.us (.ext (.vw [true,false,false,false] R)),false⟩]:Mem Td).length [⟨.us (.ext (.vw [true,false,false,false] R)),false⟩,⟨.us (.ext (.flat (.rw 109 [true,false,false,false] (fewR R n)))),true⟩] (.c (.one (.obj 1))) ((runFn (⟨Try.prog,[F_rshort (ξ:=Dk)],[],dkHo,Id'.one,60⟩:Sy Td) [(3,(lpG Id' 32 (hdC (loopsC (bodyOf Try.f57)) 0) 1 [(6,.c (.one (.v (.int .i64 ((0:Nat):Int))))),(5,.c (.one (.obj 1)))] [(0,.c (.one (.obj 0))),(1,.c (.one (.v (.int .i64 n))))] [⟨.us (.ext (.vw [true,false,false,false] R)),false⟩,⟨.us (.ext (.flat (.rw 109 [true,false,false,false] (fewK R 0)))),true⟩] (.leaf (.exit 0) [(5,.c (.one (.obj 1)))] [⟨.us (.ext (.vw [true,false,false,false] R)),false⟩,⟨.us (.ext (.flat (.rw 109 [true,false,false,false] (fewR R n)))),true⟩])))] Try.f57 [.one (.obj 0),.one (.v (.int .i64 n))] [⟨.us (.ext (.vw [true,false,false,false] R)),false⟩]).al [])=some qs∧∀ q∈qs,q:=
 ⟨[Value.int IntKind.i64 n=Value.int IntKind.i64 n,Th.ext (Dk.vw [true,false,false,false] R)=Th.ext (Dk.vw [true,false,false,false] R),∀ (w:World),Id'.holds (Th.ext (Dk.flat (FL.rw (109:TypeId) [true,false,false,false] (fewK R (0:Nat))))) w nilV∧∀ (j:Nat),¬Id'.foot (Th.ext (Dk.flat (FL.rw (109:TypeId) [true,false,false,false] (fewK R (0:Nat))))) w nilV j,Value.int IntKind.i64 (Int.ofNat 0)=Value.int IntKind.i64 (Int.ofNat (0:Nat)),Th.ext (Dk.vw [true,false,false,false] R)=Th.ext (Dk.vw [true,false,false,false] R),Th.ext (Dk.flat (FL.rw 109 [true,false,false,false] (Nat.brecOn.go (min R.length n.toNat) (fewK._f R)).1))=Th.ext (Dk.flat (FL.rw 109 [true,false,false,false] (Nat.brecOn.go (min R.length n.toNat) (fewK._f R)).1))],by kernel_rfl,(by refine mcons ?_ (mcons ?_ (mcons ?_ (mcons ?_ (mcons ?_ (mcons ?_ mnil)))))<;>first|rfl|trivial|(exact nil_rows rfl))⟩
def C_few:Ctr Td:=fun us sub=>match us,sub with
 |[.one (.obj 0),.one (.v (.int .i64 n))],[⟨.us (.ext (.vw [true,false,false,false] R)),false⟩]=>some ([0≤n∧n≤1000],.c (.one (.obj 1)),[⟨.us (.ext (.vw [true,false,false,false] R)),false⟩,⟨.us (.ext (.flat (.rw 109 [true,false,false,false] (fewR R n)))),true⟩])
 |_,_=>none
set_option maxRecDepth 100000 in
theorem C_few_ok:CtrOk Try.prog Id' 57 C_few:=by
 intro us sub ps x sm h hp w e vs hM ha
 unfold C_few at h
 split at h
 ·rename_i n R
  simp only [Option.some.injEq,Prod.mk.injEq] at h
  obtain ⟨rfl,rfl,rfl⟩:=h
  have hn:0≤n∧n≤1000:=hp _ (List.mem_cons_self ..)
  exact ctr_way (I:=Id') (fun (W0:World) (G:Nat→Prop)=>SyOk.mk2 Try.mixed dkHo_ok (FnsR.cons (F_rshort_ok (J:=dkI) (hx:=hardDk)) (FnsR.nil)) EqsOk.nil) rfl Try.func57 (by kernel_rfl) (fun _ _=>LpsOk.cons (by kernel_rfl) (few_lp R n hn _ rfl) (LpsOk.nil _)) (cs:=[]) (by kernel_rfl) (few_w0 R n ) w e vs hM ha
 ·cases h
end Go.Proofs.Ytdenmoiaiemokaa
set_option linter.unusedVariables false
set_option linter.unusedSimpArgs false
namespace Go.Proofs.Ytdenmoiaiemokaa
open Go.RowKit
def gU (s:RS):UInt8:=UInt8.ofNat (IntKind.u8.wrap (s.num 8:Int)).toNat
def gL:Nat→RS→List UInt8
 |0,_=>[]
 |n+1,s=>gU s::gL n (s.get 8)
def gS:Nat→RS→RS
 |0,s=>s
 |n+1,s=>gS n (s.get 8)
def gN (s:RS):Int:=if (16:Int)<IntKind.i64.wrap (s.num 5:Int) then 16 else IntKind.i64.wrap (s.num 5:Int)
def g4 (s:RS):RS:=(((s.get 5).get 6).get 31).get 2
def gNm (s:RS):ByteArray:=⟨((gL 16 (g4 s)).take (gN s).toNat).toArray⟩
def gA (s:RS):Int:=IntKind.i64.wrap ((s.get 5).num 6:Int)
def gB (s:RS):Int:=IntKind.i64.wrap (((s.get 5).get 6).num 31:Int)
def gC (s:RS):Int:=IntKind.i64.wrap ((((s.get 5).get 6).get 31).num 2:Int)
def gE (s:RS):RS:=gS 16 (g4 s)
def gVs:Nat→RS→List Value
 |0,_=>[]
 |n+1,s=>.int .u8 (IntKind.u8.wrap (s.num 8:Int))::gVs n (s.get 8)
theorem u8w_in (x:Int):0≤IntKind.u8.wrap x∧IntKind.u8.wrap x<256:=by
 show 0≤x % 256∧x % 256<256
 omega
theorem u8w_bv (x:Int):(.int .u8 (IntKind.u8.wrap x):Value)=bv (UInt8.ofNat (IntKind.u8.wrap x).toNat):=by
 have h:=u8w_in x
 unfold bv
 congr 1
 rw [UInt8.toNat_ofNat']
 omega
theorem gVs_bv:∀ (n:Nat) (s:RS),gVs n s=(unb (gVs n s)).map bv
 |0,_=>rfl
 |n+1,s=>by
  show _::_=_::_
  congr 1
  ·exact u8w_bv _
  ·exact gVs_bv n (s.get 8)
theorem gN_le (s:RS):(gN s).toNat≤16:=by unfold gN;split<;>omega
theorem RS.num_lt (s:RS) (n:Nat):s.num (n:Int)<2 ^ n:=by
 unfold RS.num getV
 split
 ·have h:=val_lt (bitsFrom s.l s.at' (n:Int).toNat)
  refine Nat.lt_of_lt_of_le h (Nat.pow_le_pow_right (by decide) ?_)
  unfold bitsFrom
  rw [Int.toNat_natCast]
  exact List.length_take_le ..
 ·exact Nat.pow_pos (by decide)
theorem gN_in (s:RS):0≤gN s∧gN s≤16:=by
 have h:=RS.num_lt s 5
 have:IntKind.i64.wrap (s.num 5:Int)=(s.num 5:Int):=IntWalk.i64_in _ (by
  have:(s.num ((5:Nat):Int))<32:=h
  have e:(s.num ((5:Nat):Int))=s.num 5:=rfl
  omega)
 unfold gN
 rw [this]
 split<;>omega
set_option maxRecDepth 100000 in
theorem dget_w0 (s:RS):∃ qs,wayO Id' ([⟨.us (.rd s),true⟩]:Mem Td).length [⟨.us (.rd (gE s)),true⟩] (.c (.agg [.v (.string (gNm s)),.v (.int .i64 (gA s)),.v (.int .i64 (gB s)),.v (.int .i64 (gC s))])) ((runFn (⟨Try.prog,[F_get (ξ:=Dk) (hx:=hardDk)],[],dkHo,Id'.one,60⟩:Sy Td) [] Try.f125 [.one (.obj 0)] [⟨.us (.rd s),true⟩]).al [])=some qs∧∀ q∈qs,q:=
 ⟨[(gN s).toNat≤(gVs 16 (g4 s)).length∧(gN s).toNat≤16∧16≤maxLen,gVs 16 (g4 s)=(unb (gVs 16 (g4 s))).map bv,0≤gN s∧gN s≤16,(Th.rd (gE s):Td)=Th.rd (gE s),Value.string (gNm s)=Value.string (gNm s),Value.int .i64 (gA s)=Value.int .i64 (gA s),Value.int .i64 (gB s)=Value.int .i64 (gB s),Value.int .i64 (gC s)=Value.int .i64 (gC s)],by kernel_rfl,(mcons (⟨by show _≤16;exact gN_le s,gN_le s,by decide⟩) (mcons (gVs_bv 16 _) (mcons (gN_in s) (mcons (rfl) (mcons (rfl) (mcons (rfl) (mcons (rfl) (mcons (rfl) mnil))))))))⟩
def C_dget:Ctr Td:=fun us sub=>match us,sub with
 |[.one (.obj 0)],[⟨.us (.rd s),true⟩]=>some ([],.c (.agg [.v (.string (gNm s)),.v (.int .i64 (gA s)),.v (.int .i64 (gB s)),.v (.int .i64 (gC s))]),[⟨.us (.rd (gE s)),true⟩])
 |_,_=>none
set_option maxRecDepth 100000 in
theorem C_dget_ok:CtrOk Try.prog Id' 125 C_dget:=by
 intro us sub ps x sm h hp w e vs hM ha
 unfold C_dget at h
 split at h
 ·rename_i s
  simp only [Option.some.injEq,Prod.mk.injEq] at h
  obtain ⟨rfl,rfl,rfl⟩:=h
  exact ctr_way (I:=Id') (fun (W0:World) (G:Nat→Prop)=>SyOk.mk2 Try.mixed dkHo_ok (FnsR.cons (F_get_ok (J:=dkI) (hx:=hardDk)) (FnsR.nil)) EqsOk.nil) rfl Try.func125 (by kernel_rfl) (fun _ _=>LpsOk.nil _) (cs:=[]) (by kernel_rfl) (dget_w0 s ) w e vs hM ha
 ·cases h
theorem R_dget:RowOk Try.prog Id' hardD 125 (ctrF Id' C_dget hardD):=ctrF_ok Try.call125 C_dget_ok
end Go.Proofs.Ytdenmoiaiemokaa
set_option linter.unusedVariables false
set_option linter.unusedSimpArgs false
namespace Go.Proofs.Ytdenmoiaiemokaa
open Go.RowKit
def eqT (L M:List (List UInt8)) (i:Int):Bool:=decide (L.getD i.toNat []=M.getD i.toNat [])
set_option maxRecDepth 100000 in
theorem eqf_n (L M:List (List UInt8)) (i i2:Int) (k:Nat) (f:Nat→Value) (h0:decide (i<(L.length:Int))=true) (h1:IntKind.i64.wrap (i+1)=i2) (h2:0≤i∧i.toNat<L.length) (h3:eqT L M (i)=true) (h4:L.length=M.length):∃ qs,alN Id' 2 [(17,.c (.one (.v (.int .i64 i2))))] [⟨.us (.ext (.shr 1 L.length (tbE L))),false⟩,⟨.us (.ext (.shr 1 M.length (tbE M))),false⟩] ((symC (⟨Try.prog,[F_equal (ξ:=Dk)],[],dkHo,Id'.one,60⟩:Sy Td) [] 32 (hdC (loopsC (bodyOf Try.f126)) 0) ⟨[(17,.c (.one (.v (.int .i64 i))))]++anyB' (writesC (hdC (loopsC (bodyOf Try.f126)) 0)) ([(0,.c (.one (.obj 0))),(1,.c (.one (.obj 1))),(2,.c (.fn 127 [])),(15,.c (.one (.obj 0))),(16,.c (.one (.v (.int .i64 (L.length:Int)))))]++tabV f 32),[⟨.us (.ext (.shr 1 L.length (tbE L))),false⟩,⟨.us (.ext (.shr 1 M.length (tbE M))),false⟩],0⟩).al [true,false])=some qs∧∀ q∈qs,q:=
 ⟨[decide (i<(↑L.length:Int))=true,(0:Int)≤i∧i.toNat<L.length,(0:Int)≤i∧i.toNat<M.length,(!decide (L.getD i.toNat []=M.getD i.toNat []))=false,Th.ext (Dk.shr 1 L.length (tbE L))=Th.ext (Dk.shr 1 L.length (tbE L)),Th.ext (Dk.shr 1 M.length (tbE M))=Th.ext (Dk.shr 1 M.length (tbE M)),Value.int IntKind.i64 (IntKind.i64.wrap (i+(1:Int)))=Value.int IntKind.i64 i2],by kernel_rfl,(by refine mcons ?_ (mcons ?_ (mcons ?_ (mcons ?_ (mcons ?_ (mcons ?_ (mcons ?_ mnil))))))<;>first|rfl|exact h0|exact h1|exact h2|exact h3|exact h4|trivial|(exact congrArg _ h1)|(exact h2)|(exact ⟨h2.1,by omega⟩)|(exact congrArg (! ·) h3))⟩
set_option maxRecDepth 100000 in
theorem eqf_x (L M:List (List UInt8)) (i i2:Int) (k:Nat) (f:Nat→Value) (h0:decide (i<(L.length:Int))=false):∃ qs,alX Id' 2 0 [] [⟨.us (.ext (.shr 1 L.length (tbE L))),false⟩,⟨.us (.ext (.shr 1 M.length (tbE M))),false⟩] ((symC (⟨Try.prog,[F_equal (ξ:=Dk)],[],dkHo,Id'.one,60⟩:Sy Td) [] 32 (hdC (loopsC (bodyOf Try.f126)) 0) ⟨[(17,.c (.one (.v (.int .i64 i))))]++anyB' (writesC (hdC (loopsC (bodyOf Try.f126)) 0)) ([(0,.c (.one (.obj 0))),(1,.c (.one (.obj 1))),(2,.c (.fn 127 [])),(15,.c (.one (.obj 0))),(16,.c (.one (.v (.int .i64 (L.length:Int)))))]++tabV f 32),[⟨.us (.ext (.shr 1 L.length (tbE L))),false⟩,⟨.us (.ext (.shr 1 M.length (tbE M))),false⟩],0⟩).al [false])=some qs∧∀ q∈qs,q:=
 ⟨[decide (i<(↑L.length:Int))=false,Th.ext (Dk.shr 1 L.length (tbE L))=Th.ext (Dk.shr 1 L.length (tbE L)),Th.ext (Dk.shr 1 M.length (tbE M))=Th.ext (Dk.shr 1 M.length (tbE M))],by kernel_rfl,(by refine mcons ?_ (mcons ?_ (mcons ?_ mnil))<;>first|rfl|exact h0|trivial|(exact congrArg _ h1)|(exact h2)|(exact ⟨h2.1,by omega⟩)|(exact congrArg (! ·) h3))⟩
set_option maxRecDepth 100000 in
theorem eqf_r (L M:List (List UInt8)) (i i2:Int) (k:Nat) (f:Nat→Value) (h0:decide (i<(L.length:Int))=true) (h1:IntKind.i64.wrap (i+1)=i2) (h2:0≤i∧i.toNat<L.length) (h3:eqT L M (i)=false) (h4:L.length=M.length):∃ qs,alR Id' 2 [(6,.c (.one (.kB false)))] [⟨.us (.ext (.shr 1 L.length (tbE L))),false⟩,⟨.us (.ext (.shr 1 M.length (tbE M))),false⟩] ((symC (⟨Try.prog,[F_equal (ξ:=Dk)],[],dkHo,Id'.one,60⟩:Sy Td) [] 32 (hdC (loopsC (bodyOf Try.f126)) 0) ⟨[(17,.c (.one (.v (.int .i64 i))))]++anyB' (writesC (hdC (loopsC (bodyOf Try.f126)) 0)) ([(0,.c (.one (.obj 0))),(1,.c (.one (.obj 1))),(2,.c (.fn 127 [])),(15,.c (.one (.obj 0))),(16,.c (.one (.v (.int .i64 (L.length:Int)))))]++tabV f 32),[⟨.us (.ext (.shr 1 L.length (tbE L))),false⟩,⟨.us (.ext (.shr 1 M.length (tbE M))),false⟩],0⟩).al [true,true])=some qs∧∀ q∈qs,q:=
 ⟨[decide (i<(↑L.length:Int))=true,(0:Int)≤i∧i.toNat<L.length,(0:Int)≤i∧i.toNat<M.length,(!decide (L.getD i.toNat []=M.getD i.toNat []))=true,Th.ext (Dk.shr 1 L.length (tbE L))=Th.ext (Dk.shr 1 L.length (tbE L)),Th.ext (Dk.shr 1 M.length (tbE M))=Th.ext (Dk.shr 1 M.length (tbE M)),Value.bool false=Value.bool false],by kernel_rfl,(by refine mcons ?_ (mcons ?_ (mcons ?_ (mcons ?_ (mcons ?_ (mcons ?_ (mcons ?_ mnil))))))<;>first|rfl|exact h0|exact h1|exact h2|exact h3|exact h4|trivial|(exact congrArg _ h1)|(exact h2)|(exact ⟨h2.1,by omega⟩)|(exact congrArg (! ·) h3))⟩
set_option maxRecDepth 100000 in
theorem eqf_lpA (L M:List (List UInt8)) (hL:L.length≤100000) (x0:L.length=M.length) (hall:∀ i:Int,0≤i→i.toNat<L.length→eqT L M (i)=true) {W0:World} {G:Nat→Prop} (S0:Sy Td) (hS0:S0.P=Try.prog):LoopSound S0 Id' W0 G 32 (hdC (loopsC (bodyOf Try.f126)) 0) (lpG Id' 32 (hdC (loopsC (bodyOf Try.f126)) 0) 2 [(17,.c (.one (.v (.int .i64 ((0+0:Nat):Int)))))] [(0,.c (.one (.obj 0))),(1,.c (.one (.obj 1))),(2,.c (.fn 127 [])),(15,.c (.one (.obj 0))),(16,.c (.one (.v (.int .i64 (L.length:Int)))))] [⟨.us (.ext (.shr 1 L.length (tbE L))),false⟩,⟨.us (.ext (.shr 1 M.length (tbE M))),false⟩] (.leaf (.exit 0) [] [⟨.us (.ext (.shr 1 L.length (tbE L))),false⟩,⟨.us (.ext (.shr 1 M.length (tbE M))),false⟩])):=by
 refine lp_sound (V:=fun k=>[(17,.c (.one (.v (.int .i64 ((k+0:Nat):Int)))))]) (M:=(fun k=>[⟨.us (.ext (.shr 1 L.length (tbE L))),false⟩,⟨.us (.ext (.shr 1 M.length (tbE M))),false⟩]:Nat→Mem Td)) (N:=L.length) (Ux:=fun k x=>match x with|.exit 0=>some ([],([⟨.us (.ext (.shr 1 L.length (tbE L))),false⟩,⟨.us (.ext (.shr 1 M.length (tbE M))),false⟩]:Mem Td))|_=>none) (X:=fun _ _=>True) (J:=fun k=>True) (fun k=>by kernel_rfl) trivial (fun k hk hJ f=>?_) (fun K hK k x U hk hU hX=>?_)
 ·rw [hS0]
  cases hT:decide (((k+0:Nat):Int)<(L.length:Int)) with
  |false=>
   exact rnd_xD (⟨Try.prog,[F_equal (ξ:=Dk)],[],dkHo,Id'.one,60⟩:Sy Td) rfl ((fun (W0:World) (G:Nat→Prop)=>SyOk.mk2 Try.mixed dkHo_ok (FnsR.cons (F_equal_ok (J:=dkI) (hx:=hardDk)) (FnsR.nil)) EqsOk.nil) W0 G) (eqf_x L M ((k+0:Nat):Int) ((k+1+0:Nat):Int) k f hT) rfl trivial
  |true=>
   have hk1:=of_decide_eq_true hT
   have hW:IntKind.i64.wrap (((k+0:Nat):Int)+1)=((k+1+0:Nat):Int):=by rw [IntWalk.i64_in _ (by omega)];omega
   exact rnd_nD (⟨Try.prog,[F_equal (ξ:=Dk)],[],dkHo,Id'.one,60⟩:Sy Td) rfl ((fun (W0:World) (G:Nat→Prop)=>SyOk.mk2 Try.mixed dkHo_ok (FnsR.cons (F_equal_ok (J:=dkI) (hx:=hardDk)) (FnsR.nil)) EqsOk.nil) W0 G) (eqf_n L M ((k+0:Nat):Int) ((k+1+0:Nat):Int) k f hT hW (by omega) (hall _ (by omega) (by omega)) x0) rfl rfl (by omega) trivial
 ·revert hU
  match x with
  |.exit 0=>intro hU;simp only [Option.some.injEq] at hU;subst hU;exact hK
  |.normal=>intro hU;cases hU
  |.ret=>intro hU;cases hU
  |.exit (n+1)=>intro hU;cases hU
set_option maxRecDepth 100000 in
theorem eqf_lpR (L M:List (List UInt8)) (hL:L.length≤100000) (x0:L.length=M.length) (hex:∃ i:Int,0≤i∧i.toNat<L.length∧eqT L M (i)=false) {W0:World} {G:Nat→Prop} (S0:Sy Td) (hS0:S0.P=Try.prog):LoopSound S0 Id' W0 G 32 (hdC (loopsC (bodyOf Try.f126)) 0) (lpG Id' 32 (hdC (loopsC (bodyOf Try.f126)) 0) 2 [(17,.c (.one (.v (.int .i64 ((0+0:Nat):Int)))))] [(0,.c (.one (.obj 0))),(1,.c (.one (.obj 1))),(2,.c (.fn 127 [])),(15,.c (.one (.obj 0))),(16,.c (.one (.v (.int .i64 (L.length:Int)))))] [⟨.us (.ext (.shr 1 L.length (tbE L))),false⟩,⟨.us (.ext (.shr 1 M.length (tbE M))),false⟩] (.leaf .ret [(6,.c (.one (.kB false)))] [⟨.us (.ext (.shr 1 L.length (tbE L))),false⟩,⟨.us (.ext (.shr 1 M.length (tbE M))),false⟩])):=by
 refine lp_sound (V:=fun k=>[(17,.c (.one (.v (.int .i64 ((k+0:Nat):Int)))))]) (M:=(fun k=>[⟨.us (.ext (.shr 1 L.length (tbE L))),false⟩,⟨.us (.ext (.shr 1 M.length (tbE M))),false⟩]:Nat→Mem Td)) (N:=L.length) (Ux:=fun k x=>match x with|.ret=>some ([(6,.c (.one (.kB false)))],([⟨.us (.ext (.shr 1 L.length (tbE L))),false⟩,⟨.us (.ext (.shr 1 M.length (tbE M))),false⟩]:Mem Td))|_=>none) (X:=fun _ _=>True) (J:=fun k=>∀ i:Int,0≤i→i<((k+0:Nat):Int)→eqT L M (i)=true) (fun k=>by kernel_rfl) (fun i h0 h1=>by omega) (fun k hk hJ f=>?_) (fun K hK k x U hk hU hX=>?_)
 ·rw [hS0]
  cases hT:decide (((k+0:Nat):Int)<(L.length:Int)) with
  |false=>
   obtain ⟨j,j0,j1,j2⟩:=hex
   have:=of_decide_eq_false hT
   rw [hJ j j0 (by omega)] at j2
   cases j2
  |true=>
   have hk1:=of_decide_eq_true hT
   have hW:IntKind.i64.wrap (((k+0:Nat):Int)+1)=((k+1+0:Nat):Int):=by rw [IntWalk.i64_in _ (by omega)];omega
   cases hq:eqT L M (((k+0:Nat):Int)) with
   |true=>exact rnd_nD (⟨Try.prog,[F_equal (ξ:=Dk)],[],dkHo,Id'.one,60⟩:Sy Td) rfl ((fun (W0:World) (G:Nat→Prop)=>SyOk.mk2 Try.mixed dkHo_ok (FnsR.cons (F_equal_ok (J:=dkI) (hx:=hardDk)) (FnsR.nil)) EqsOk.nil) W0 G) (eqf_n L M ((k+0:Nat):Int) ((k+1+0:Nat):Int) k f hT hW (by omega) hq x0) rfl rfl (by omega) (fun i h0 h1=>by
     by_cases he:i=((k+0:Nat):Int)
     ·subst he;exact hq
     ·exact hJ i h0 (by omega))
   |false=>exact rnd_rD (⟨Try.prog,[F_equal (ξ:=Dk)],[],dkHo,Id'.one,60⟩:Sy Td) rfl ((fun (W0:World) (G:Nat→Prop)=>SyOk.mk2 Try.mixed dkHo_ok (FnsR.cons (F_equal_ok (J:=dkI) (hx:=hardDk)) (FnsR.nil)) EqsOk.nil) W0 G) (eqf_r L M ((k+0:Nat):Int) ((k+1+0:Nat):Int) k f hT hW (by omega) hq x0) rfl trivial
 ·revert hU
  match x with
  |.ret=>intro hU;simp only [Option.some.injEq] at hU;subst hU;exact hK
  |.normal=>intro hU;cases hU
  |.exit n=>intro hU;cases hU
set_option maxRecDepth 100000 in
theorem eqfD_w0 (L M:List (List UInt8)) (h0:(!decide ((L.length:Int)=(M.length:Int)))=true):∃ qs,wayO Id' ([⟨.us (.ext (.shr 1 L.length (tbE L))),false⟩,⟨.us (.ext (.shr 1 M.length (tbE M))),false⟩]:Mem Td).length [⟨.us (.ext (.shr 1 L.length (tbE L))),false⟩,⟨.us (.ext (.shr 1 M.length (tbE M))),false⟩] (svV (.bool false)) ((runFn (⟨Try.prog,[F_equal (ξ:=Dk)],[],dkHo,Id'.one,60⟩:Sy Td) [] Try.f126 [.one (.obj 0),.one (.obj 1),.fn 127 []] [⟨.us (.ext (.shr 1 L.length (tbE L))),false⟩,⟨.us (.ext (.shr 1 M.length (tbE M))),false⟩]).al [true])=some qs∧∀ q∈qs,q:=
 ⟨[((↑L.length:Int) != (↑M.length:Int))=true,Th.ext (Dk.shr 1 L.length (tbE L))=Th.ext (Dk.shr 1 L.length (tbE L)),Th.ext (Dk.shr 1 M.length (tbE M))=Th.ext (Dk.shr 1 M.length (tbE M)),Value.bool false=Value.bool false],by kernel_rfl,(by refine mcons ?_ (mcons ?_ (mcons ?_ (mcons ?_ mnil)))<;>first|rfl|exact h0|trivial)⟩
set_option maxRecDepth 100000 in
theorem eqfA_w0 (L M:List (List UInt8)) (h0:(!decide ((L.length:Int)=(M.length:Int)))=false):∃ qs,wayO Id' ([⟨.us (.ext (.shr 1 L.length (tbE L))),false⟩,⟨.us (.ext (.shr 1 M.length (tbE M))),false⟩]:Mem Td).length [⟨.us (.ext (.shr 1 L.length (tbE L))),false⟩,⟨.us (.ext (.shr 1 M.length (tbE M))),false⟩] (svV (.bool true)) ((runFn (⟨Try.prog,[F_equal (ξ:=Dk)],[],dkHo,Id'.one,60⟩:Sy Td) [(4,(lpG Id' 32 (hdC (loopsC (bodyOf Try.f126)) 0) 2 [(17,.c (.one (.v (.int .i64 ((0+0:Nat):Int)))))] [(0,.c (.one (.obj 0))),(1,.c (.one (.obj 1))),(2,.c (.fn 127 [])),(15,.c (.one (.obj 0))),(16,.c (.one (.v (.int .i64 (L.length:Int)))))] [⟨.us (.ext (.shr 1 L.length (tbE L))),false⟩,⟨.us (.ext (.shr 1 M.length (tbE M))),false⟩] (.leaf (.exit 0) [] [⟨.us (.ext (.shr 1 L.length (tbE L))),false⟩,⟨.us (.ext (.shr 1 M.length (tbE M))),false⟩])))] Try.f126 [.one (.obj 0),.one (.obj 1),.fn 127 []] [⟨.us (.ext (.shr 1 L.length (tbE L))),false⟩,⟨.us (.ext (.shr 1 M.length (tbE M))),false⟩]).al [false])=some qs∧∀ q∈qs,q:=
 ⟨[((↑L.length:Int) != (↑M.length:Int))=false,Value.int IntKind.i64 (↑L.length:Int)=Value.int IntKind.i64 (↑L.length:Int),Th.ext (Dk.shr 1 L.length (tbE L))=Th.ext (Dk.shr 1 L.length (tbE L)),Th.ext (Dk.shr 1 M.length (tbE M))=Th.ext (Dk.shr 1 M.length (tbE M)),Value.int IntKind.i64 (Int.ofNat 0)=Value.int IntKind.i64 (Int.ofNat ((0:Nat)+(0:Nat))),Th.ext (Dk.shr 1 L.length (tbE L))=Th.ext (Dk.shr 1 L.length (tbE L)),Th.ext (Dk.shr 1 M.length (tbE M))=Th.ext (Dk.shr 1 M.length (tbE M)),Value.bool true=Value.bool true],by kernel_rfl,(by refine mcons ?_ (mcons ?_ (mcons ?_ (mcons ?_ (mcons ?_ (mcons ?_ (mcons ?_ (mcons ?_ mnil)))))))<;>first|rfl|exact h0|trivial)⟩
set_option maxRecDepth 100000 in
theorem eqfR_w0 (L M:List (List UInt8)) (h0:(!decide ((L.length:Int)=(M.length:Int)))=false):∃ qs,wayO Id' ([⟨.us (.ext (.shr 1 L.length (tbE L))),false⟩,⟨.us (.ext (.shr 1 M.length (tbE M))),false⟩]:Mem Td).length [⟨.us (.ext (.shr 1 L.length (tbE L))),false⟩,⟨.us (.ext (.shr 1 M.length (tbE M))),false⟩] (svV (.bool false)) ((runFn (⟨Try.prog,[F_equal (ξ:=Dk)],[],dkHo,Id'.one,60⟩:Sy Td) [(4,(lpG Id' 32 (hdC (loopsC (bodyOf Try.f126)) 0) 2 [(17,.c (.one (.v (.int .i64 ((0+0:Nat):Int)))))] [(0,.c (.one (.obj 0))),(1,.c (.one (.obj 1))),(2,.c (.fn 127 [])),(15,.c (.one (.obj 0))),(16,.c (.one (.v (.int .i64 (L.length:Int)))))] [⟨.us (.ext (.shr 1 L.length (tbE L))),false⟩,⟨.us (.ext (.shr 1 M.length (tbE M))),false⟩] (.leaf .ret [(6,.c (.one (.kB false)))] [⟨.us (.ext (.shr 1 L.length (tbE L))),false⟩,⟨.us (.ext (.shr 1 M.length (tbE M))),false⟩])))] Try.f126 [.one (.obj 0),.one (.obj 1),.fn 127 []] [⟨.us (.ext (.shr 1 L.length (tbE L))),false⟩,⟨.us (.ext (.shr 1 M.length (tbE M))),false⟩]).al [false])=some qs∧∀ q∈qs,q:=
 ⟨[((↑L.length:Int) != (↑M.length:Int))=false,Value.int IntKind.i64 (↑L.length:Int)=Value.int IntKind.i64 (↑L.length:Int),Th.ext (Dk.shr 1 L.length (tbE L))=Th.ext (Dk.shr 1 L.length (tbE L)),Th.ext (Dk.shr 1 M.length (tbE M))=Th.ext (Dk.shr 1 M.length (tbE M)),Value.int IntKind.i64 (Int.ofNat 0)=Value.int IntKind.i64 (Int.ofNat ((0:Nat)+(0:Nat))),Th.ext (Dk.shr 1 L.length (tbE L))=Th.ext (Dk.shr 1 L.length (tbE L)),Th.ext (Dk.shr 1 M.length (tbE M))=Th.ext (Dk.shr 1 M.length (tbE M)),Value.bool false=Value.bool false],by kernel_rfl,(by refine mcons ?_ (mcons ?_ (mcons ?_ (mcons ?_ (mcons ?_ (mcons ?_ (mcons ?_ (mcons ?_ mnil)))))))<;>first|rfl|exact h0|trivial)⟩
theorem eqT_all (L M:List (List UInt8)):(decide (L.length=M.length)&&allI 0 L.length (eqT L M))=decide (L=M):=by
 rw [Bool.eq_iff_iff,Bool.and_eq_true,decide_eq_true_iff,decide_eq_true_iff]
 constructor
 ·rintro ⟨h,ha⟩
  rcases allI_cases 0 L.length (eqT L M) with ⟨_,g⟩|⟨g,_⟩
  ·apply List.ext_getElem h
   intro i h1 h2
   have:=of_decide_eq_true (g (i:Int) (by omega) (by omega))
   rw [Int.toNat_natCast,List.getD_eq_getElem?_getD,List.getD_eq_getElem?_getD,List.getElem?_eq_getElem h1,List.getElem?_eq_getElem h2] at this
   exact this
  ·rw [ha] at g;cases g
 ·rintro rfl
  refine ⟨rfl,?_⟩
  rcases allI_cases 0 L.length (eqT L L) with ⟨g,_⟩|⟨_,i,_,_,g⟩
  ·exact g
  ·unfold eqT at g;simp at g
def C_eqf (L M:List (List UInt8)):Ctr Td:=fun us sub=>match us,sub with
 |[.one (.obj 0),.one (.obj 1),.fn 127 []],[⟨.us (.ext (.shr sz n el)),false⟩,⟨.us (.ext (.shr sz2 n2 el2)),false⟩]=>some ([sz=1∧n=L.length∧el=tbE L,sz2=1∧n2=M.length∧el2=tbE M,L.length≤100000],svV (.bool (decide (L=M))),[⟨.us (.ext (.shr sz n el)),false⟩,⟨.us (.ext (.shr sz2 n2 el2)),false⟩])
 |_,_=>none
set_option maxRecDepth 100000 in
theorem C_eqf_ok (L M:List (List UInt8)):CtrOk Try.prog Id' 126 (C_eqf L M):=by
 intro us sub ps x sm h hp w e vs hM ha
 unfold C_eqf at h
 split at h
 ·rename_i sz n el sz2 n2 el2
  simp only [Option.some.injEq,Prod.mk.injEq] at h
  obtain ⟨rfl,rfl,rfl⟩:=h
  obtain ⟨rfl,rfl,rfl⟩:=hp _ (List.mem_cons_self ..)
  obtain ⟨rfl,rfl,rfl⟩:=hp _ (List.mem_cons_of_mem _ (List.mem_cons_self ..))
  have hL:L.length≤100000:=hp _ (List.mem_cons_of_mem _ (List.mem_cons_of_mem _ (List.mem_cons_self ..)))
  rw [← eqT_all]
  cases hq:(!decide ((L.length:Int)=(M.length:Int))) with
  |true=>
   have hv:decide (L.length=M.length)=false:=decide_eq_false (fun e=>by rw [e] at hq;simp at hq)
   rw [hv,Bool.false_and]
   exact ctr_way (I:=Id') (fun (W0:World) (G:Nat→Prop)=>SyOk.mk2 Try.mixed dkHo_ok (FnsR.cons (F_equal_ok (J:=dkI) (hx:=hardDk)) (FnsR.nil)) EqsOk.nil) rfl Try.func126 (by kernel_rfl) (fun _ _=>LpsOk.nil _) (cs:=[true]) (by kernel_rfl) (eqfD_w0 L M hq) w e vs hM ha
  |false=>
   have hd:decide ((L.length:Int)=(M.length:Int))=true:=by simpa using hq
   have hl:L.length=M.length:=by have:=of_decide_eq_true hd;omega
   rw [decide_eq_true hl,Bool.true_and]
   rcases allI_cases 0 L.length (eqT L M) with ⟨ha0,hall⟩|⟨ha0,hex⟩
   ·rw [ha0]
    exact ctr_way (I:=Id') (fun (W0:World) (G:Nat→Prop)=>SyOk.mk2 Try.mixed dkHo_ok (FnsR.cons (F_equal_ok (J:=dkI) (hx:=hardDk)) (FnsR.nil)) EqsOk.nil) rfl Try.func126 (by kernel_rfl) (fun _ _=>LpsOk.cons (by kernel_rfl) (eqf_lpA L M hL hl hall _ rfl) (LpsOk.nil _)) (cs:=[false]) (by kernel_rfl) (eqfA_w0 L M hq) w e vs hM ha
   ·rw [ha0]
    exact ctr_way (I:=Id') (fun (W0:World) (G:Nat→Prop)=>SyOk.mk2 Try.mixed dkHo_ok (FnsR.cons (F_equal_ok (J:=dkI) (hx:=hardDk)) (FnsR.nil)) EqsOk.nil) rfl Try.func126 (by kernel_rfl) (fun _ _=>LpsOk.cons (by kernel_rfl) (eqf_lpR L M hL hl hex _ rfl) (LpsOk.nil _)) (cs:=[false]) (by kernel_rfl) (eqfR_w0 L M hq) w e vs hM ha
 ·cases h
theorem R_eqf (L M:List (List UInt8)):RowOk Try.prog Id' hardD 126 (ctrF Id' (wkC (C_eqf L M)) hardD):=ctrF_ok Try.call126 (wkC_ok (C_eqf_ok L M))
end Go.Proofs.Ytdenmoiaiemokaa
