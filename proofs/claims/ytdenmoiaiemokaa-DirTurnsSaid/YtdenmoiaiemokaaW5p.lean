/- W5. -/
import Derived.Test.YtdenmoiaiemokaaW4p
set_option linter.unusedVariables false
set_option linter.unusedSimpArgs false
namespace Go.Proofs.Ytdenmoiaiemokaa
open Go.RowKit
theorem nil_rows {t:TypeId} {ks:List Bool} {X:List Rw} (h:X=[]):∀ w,Id'.holds (Th.ext (Dk.flat (FL.rw t ks X)):Td) w nilV∧∀ j,¬ Id'.foot (Th.ext (Dk.flat (FL.rw t ks X)):Td) w nilV j:=by
 subst h
 exact fun w=>⟨⟨(fun r hr=>by cases hr),0,Nat.zero_le _,owns_nilV w 0 _ _⟩,(fun j h=>by cases h)⟩
def nrm4 (r:Rw):Rw:=⟨[r.is.getD 0 0,r.is.getD 1 0,r.is.getD 2 0],[r.ss.getD 0 ⟨#[]⟩]⟩
def keepR (s:ByteArray) (r:Rw):Bool:=!((r.ss.getD 0 ⟨#[]⟩).toList==s.toList)
def dropR (R:List Rw) (s:ByteArray):Nat→List Rw
 |0=>[]
 |k+1=>bif keepR s (R.getD k Rw.zero) then dropR R s k++[nrm4 (R.getD k Rw.zero)] else dropR R s k
theorem dropR_len (R:List Rw) (s:ByteArray):∀ k,(dropR R s k).length≤k
 |0=>Nat.le_refl _
 |k+1=>by
  have:=dropR_len R s k
  simp only [dropR]
  cases keepR s (R.getD k Rw.zero)<;>simp<;>omega
set_option maxRecDepth 100000 in
theorem rdrop_n1 (R X Y:List Rw) (s:ByteArray) (k:Nat) (f:Nat→Value) (h0:decide ((k:Int)<(R.length:Int))=true) (h1:IntKind.i64.wrap ((k:Int)+1)=((k+1:Nat):Int)) (h2:k<R.length) (h3:keepR s (R.getD ((k:Int).toNat) Rw.zero)=true) (h4:X++[nrm4 (R.getD ((k:Int).toNat) Rw.zero)]=Y) (h5:X.length+1≤100000):∃ qs,alN Id' 1 [(6,.c (.one (.v (.int .i64 ((k+1:Nat):Int))))),(5,.c (.one (.obj 1)))] [⟨.us (.ext (.vw [true,false,false,false] R)),false⟩,⟨.us (.ext (.flat (.rw 109 [true,false,false,false] Y))),true⟩] ((symC (⟨Try.prog,[],[],dkHo,Id'.one,60⟩:Sy Td) [] 28 (hdC (loopsC (bodyOf Try.f69)) 0) ⟨[(6,.c (.one (.v (.int .i64 (k:Int))))),(5,.c (.one (.obj 1)))]++anyB' (writesC (hdC (loopsC (bodyOf Try.f69)) 0)) ([(0,.c (.one (.obj 0))),(1,.c (.one (.v (.string s))))]++tabV f 28),[⟨.us (.ext (.vw [true,false,false,false] R)),false⟩,⟨.us (.ext (.flat (.rw 109 [true,false,false,false] X))),true⟩],0⟩).al [true,true])=some qs∧∀ q∈qs,q:=
 ⟨[decide ((↑k:Int)<(↑R.length:Int))=true,(0:Int)≤(↑k:Int)∧(↑k:Int).toNat<R.length,(!((R.getD (↑k:Int).toNat Rw.zero).ss.getD (0:Nat) (ByteArray.mk #[])).toList==s.toList)=true,X.length+[Rw.mk [(R.getD (↑k:Int).toNat Rw.zero).is.getD (0:Nat) (0:Int),(R.getD (↑k:Int).toNat Rw.zero).is.getD ((0:Nat)+(1:Nat)) (0:Int),(R.getD (↑k:Int).toNat Rw.zero).is.getD ((0:Nat)+(1:Nat)+(1:Nat)) (0:Int)] [(R.getD (↑k:Int).toNat Rw.zero).ss.getD (0:Nat) (ByteArray.mk #[])]].length≤(100000:Nat),(0:Int)≤(↑k:Int)∧(↑k:Int).toNat<R.length,Th.ext (Dk.vw [true,false,false,false] R)=Th.ext (Dk.vw [true,false,false,false] R),Th.ext (Dk.flat (FL.rw 109 [true,false,false,false] (X++[Rw.mk [(R.getD (↑k:Int).toNat Rw.zero).is.getD (0:Nat) (0:Int),(R.getD (↑k:Int).toNat Rw.zero).is.getD ((0:Nat)+(1:Nat)) (0:Int),(R.getD (↑k:Int).toNat Rw.zero).is.getD ((0:Nat)+(1:Nat)+(1:Nat)) (0:Int)] [(R.getD (↑k:Int).toNat Rw.zero).ss.getD (0:Nat) (ByteArray.mk #[])]])))=Th.ext (Dk.flat (FL.rw 109 [true,false,false,false] Y)),Value.int IntKind.i64 (IntKind.i64.wrap ((↑k:Int)+(1:Int)))=Value.int IntKind.i64 (↑(k+(1:Nat)):Int)],by kernel_rfl,(by refine mcons ?_ (mcons ?_ (mcons ?_ (mcons ?_ (mcons ?_ (mcons ?_ (mcons ?_ (mcons ?_ mnil)))))))<;>first|rfl|exact h0|exact h1|exact h2|exact h3|exact h4|exact h5|trivial|(exact ⟨by omega,by show (k:Int).toNat<R.length;omega⟩)|(exact congrArg _ h1)|(exact congrArg (fun x=>Th.ext (Dk.flat (FL.rw 109 [true,false,false,false] x))) h4)|(exact h5))⟩
set_option maxRecDepth 100000 in
theorem rdrop_n2 (R X Y:List Rw) (s:ByteArray) (k:Nat) (f:Nat→Value) (h0:decide ((k:Int)<(R.length:Int))=true) (h1:IntKind.i64.wrap ((k:Int)+1)=((k+1:Nat):Int)) (h2:k<R.length) (h3:keepR s (R.getD ((k:Int).toNat) Rw.zero)=false) (h4:X=Y):∃ qs,alN Id' 1 [(6,.c (.one (.v (.int .i64 ((k+1:Nat):Int))))),(5,.c (.one (.obj 1)))] [⟨.us (.ext (.vw [true,false,false,false] R)),false⟩,⟨.us (.ext (.flat (.rw 109 [true,false,false,false] Y))),true⟩] ((symC (⟨Try.prog,[],[],dkHo,Id'.one,60⟩:Sy Td) [] 28 (hdC (loopsC (bodyOf Try.f69)) 0) ⟨[(6,.c (.one (.v (.int .i64 (k:Int))))),(5,.c (.one (.obj 1)))]++anyB' (writesC (hdC (loopsC (bodyOf Try.f69)) 0)) ([(0,.c (.one (.obj 0))),(1,.c (.one (.v (.string s))))]++tabV f 28),[⟨.us (.ext (.vw [true,false,false,false] R)),false⟩,⟨.us (.ext (.flat (.rw 109 [true,false,false,false] X))),true⟩],0⟩).al [true,false])=some qs∧∀ q∈qs,q:=
 ⟨[decide ((↑k:Int)<(↑R.length:Int))=true,(0:Int)≤(↑k:Int)∧(↑k:Int).toNat<R.length,(!((R.getD (↑k:Int).toNat Rw.zero).ss.getD (0:Nat) (ByteArray.mk #[])).toList==s.toList)=false,Th.ext (Dk.vw [true,false,false,false] R)=Th.ext (Dk.vw [true,false,false,false] R),Th.ext (Dk.flat (FL.rw 109 [true,false,false,false] X))=Th.ext (Dk.flat (FL.rw 109 [true,false,false,false] Y)),Value.int IntKind.i64 (IntKind.i64.wrap ((↑k:Int)+(1:Int)))=Value.int IntKind.i64 (↑(k+(1:Nat)):Int)],by kernel_rfl,(by refine mcons ?_ (mcons ?_ (mcons ?_ (mcons ?_ (mcons ?_ (mcons ?_ mnil)))))<;>first|rfl|exact h0|exact h1|exact h2|exact h3|exact h4|trivial|(exact ⟨by omega,by show (k:Int).toNat<R.length;omega⟩)|(exact congrArg _ h1)|(exact congrArg (fun x=>Th.ext (Dk.flat (FL.rw 109 [true,false,false,false] x))) h4)|(exact h5))⟩
set_option maxRecDepth 100000 in
theorem rdrop_x (R X Y:List Rw) (s:ByteArray) (k:Nat) (f:Nat→Value) (h0:decide ((k:Int)<(R.length:Int))=false) (h1:X=Y):∃ qs,alX Id' 1 0 [(5,.c (.one (.obj 1)))] [⟨.us (.ext (.vw [true,false,false,false] R)),false⟩,⟨.us (.ext (.flat (.rw 109 [true,false,false,false] Y))),true⟩] ((symC (⟨Try.prog,[],[],dkHo,Id'.one,60⟩:Sy Td) [] 28 (hdC (loopsC (bodyOf Try.f69)) 0) ⟨[(6,.c (.one (.v (.int .i64 (k:Int))))),(5,.c (.one (.obj 1)))]++anyB' (writesC (hdC (loopsC (bodyOf Try.f69)) 0)) ([(0,.c (.one (.obj 0))),(1,.c (.one (.v (.string s))))]++tabV f 28),[⟨.us (.ext (.vw [true,false,false,false] R)),false⟩,⟨.us (.ext (.flat (.rw 109 [true,false,false,false] X))),true⟩],0⟩).al [false])=some qs∧∀ q∈qs,q:=
 ⟨[decide ((↑k:Int)<(↑R.length:Int))=false,Th.ext (Dk.vw [true,false,false,false] R)=Th.ext (Dk.vw [true,false,false,false] R),Th.ext (Dk.flat (FL.rw 109 [true,false,false,false] X))=Th.ext (Dk.flat (FL.rw 109 [true,false,false,false] Y))],by kernel_rfl,(by refine mcons ?_ (mcons ?_ (mcons ?_ mnil))<;>first|rfl|exact h0|exact h1|trivial|(exact congrArg (fun x=>Th.ext (Dk.flat (FL.rw 109 [true,false,false,false] x))) h1))⟩
set_option maxRecDepth 100000 in
theorem rdrop_lp (R:List Rw) (s:ByteArray) (hR:R.length≤100000) {W0:World} {G:Nat→Prop} (S0:Sy Td) (hS0:S0.P=Try.prog):LoopSound S0 Id' W0 G 28 (hdC (loopsC (bodyOf Try.f69)) 0) (lpG Id' 28 (hdC (loopsC (bodyOf Try.f69)) 0) 1 [(6,.c (.one (.v (.int .i64 ((0:Nat):Int))))),(5,.c (.one (.obj 1)))] [(0,.c (.one (.obj 0))),(1,.c (.one (.v (.string s))))] [⟨.us (.ext (.vw [true,false,false,false] R)),false⟩,⟨.us (.ext (.flat (.rw 109 [true,false,false,false] (dropR R s 0)))),true⟩] (.leaf (.exit 0) [(5,.c (.one (.obj 1)))] [⟨.us (.ext (.vw [true,false,false,false] R)),false⟩,⟨.us (.ext (.flat (.rw 109 [true,false,false,false] (dropR R s R.length)))),true⟩])):=by
 refine lp_sound (V:=fun k=>[(6,.c (.one (.v (.int .i64 (k:Int))))),(5,.c (.one (.obj 1)))]) (M:=(fun k=>[⟨.us (.ext (.vw [true,false,false,false] R)),false⟩,⟨.us (.ext (.flat (.rw 109 [true,false,false,false] (dropR R s k)))),true⟩]:Nat→Mem Td)) (N:=R.length) (Ux:=fun k x=>match x with|.exit 0=>some ([(5,.c (.one (.obj 1)))],([⟨.us (.ext (.vw [true,false,false,false] R)),false⟩,⟨.us (.ext (.flat (.rw 109 [true,false,false,false] (dropR R s R.length)))),true⟩]:Mem Td))|_=>none) (X:=fun _ _=>True) (J:=fun _=>True) (fun k=>by kernel_rfl) trivial (fun k hk hJ f=>?_) (fun K hK k x U hk hU hX=>?_)
 ·rw [hS0]
  cases hc:decide ((k:Int)<(R.length:Int)) with
  |false=>
   have hke:k=R.length:=by have:=of_decide_eq_false hc;omega
   exact rnd_xD (⟨Try.prog,[],[],dkHo,Id'.one,60⟩:Sy Td) rfl ((fun (W0:World) (G:Nat→Prop)=>SyOk.mk2 Try.mixed dkHo_ok (FnsR.nil) EqsOk.nil) W0 G) (rdrop_x R (dropR R s k) (dropR R s R.length) s k f hc (by rw [hke])) rfl  trivial
  |true=>
   have hk1:k<R.length:=by have:=of_decide_eq_true hc;omega
   have hW:IntKind.i64.wrap ((k:Int)+1)=((k+1:Nat):Int):=by rw [IntWalk.i64_in _ (by omega)];omega
   cases hq:keepR s (R.getD ((k:Int).toNat) Rw.zero) with
   |true=>
    have hl:=dropR_len R s k
    exact rnd_nD (⟨Try.prog,[],[],dkHo,Id'.one,60⟩:Sy Td) rfl ((fun (W0:World) (G:Nat→Prop)=>SyOk.mk2 Try.mixed dkHo_ok (FnsR.nil) EqsOk.nil) W0 G) (rdrop_n1 R (dropR R s k) (dropR R s (k+1)) s k f hc hW hk1 hq (by rw [Int.toNat_natCast] at hq ⊢;show _=bif keepR s (R.getD k Rw.zero) then dropR R s k++[nrm4 (R.getD k Rw.zero)] else dropR R s k;rw [hq];rfl) (by omega)) rfl  rfl (by omega) trivial
   |false=>
    exact rnd_nD (⟨Try.prog,[],[],dkHo,Id'.one,60⟩:Sy Td) rfl ((fun (W0:World) (G:Nat→Prop)=>SyOk.mk2 Try.mixed dkHo_ok (FnsR.nil) EqsOk.nil) W0 G) (rdrop_n2 R (dropR R s k) (dropR R s (k+1)) s k f hc hW hk1 hq (by rw [Int.toNat_natCast] at hq;show _=bif keepR s (R.getD k Rw.zero) then dropR R s k++[nrm4 (R.getD k Rw.zero)] else dropR R s k;rw [hq];rfl)) rfl  rfl (by omega) trivial
 ·revert hU
  match x with
  |.exit 0=>intro hU;simp only [Option.some.injEq] at hU;subst hU;exact hK
  |.normal=>intro hU;cases hU
  |.ret=>intro hU;cases hU
  |.exit (n+1)=>intro hU;cases hU
set_option maxRecDepth 100000 in
theorem rdrop_w0 (R:List Rw) (s:ByteArray) :∃ qs,wayO Id' ([⟨.us (.ext (.vw [true,false,false,false] R)),false⟩]:Mem Td).length [⟨.us (.ext (.vw [true,false,false,false] R)),false⟩,⟨.us (.ext (.flat (.rw 109 [true,false,false,false] (dropR R s R.length)))),true⟩] (.c (.one (.obj 1))) ((runFn (⟨Try.prog,[],[],dkHo,Id'.one,60⟩:Sy Td) [(3,(lpG Id' 28 (hdC (loopsC (bodyOf Try.f69)) 0) 1 [(6,.c (.one (.v (.int .i64 ((0:Nat):Int))))),(5,.c (.one (.obj 1)))] [(0,.c (.one (.obj 0))),(1,.c (.one (.v (.string s))))] [⟨.us (.ext (.vw [true,false,false,false] R)),false⟩,⟨.us (.ext (.flat (.rw 109 [true,false,false,false] (dropR R s 0)))),true⟩] (.leaf (.exit 0) [(5,.c (.one (.obj 1)))] [⟨.us (.ext (.vw [true,false,false,false] R)),false⟩,⟨.us (.ext (.flat (.rw 109 [true,false,false,false] (dropR R s R.length)))),true⟩])))] Try.f69 [.one (.obj 0),.one (.v (.string s))] [⟨.us (.ext (.vw [true,false,false,false] R)),false⟩]).al [])=some qs∧∀ q∈qs,q:=
 ⟨[Value.string s=Value.string s,Th.ext (Dk.vw [true,false,false,false] R)=Th.ext (Dk.vw [true,false,false,false] R),∀ (w:World),Id'.holds (Th.ext (Dk.flat (FL.rw (109:TypeId) [true,false,false,false] (dropR R s (0:Nat))))) w nilV∧∀ (j:Nat),¬Id'.foot (Th.ext (Dk.flat (FL.rw (109:TypeId) [true,false,false,false] (dropR R s (0:Nat))))) w nilV j,Value.int IntKind.i64 (Int.ofNat 0)=Value.int IntKind.i64 (Int.ofNat (0:Nat)),Th.ext (Dk.vw [true,false,false,false] R)=Th.ext (Dk.vw [true,false,false,false] R),Th.ext (Dk.flat (FL.rw 109 [true,false,false,false] (Nat.brecOn.go R.length (dropR._f R s)).1))=Th.ext (Dk.flat (FL.rw 109 [true,false,false,false] (Nat.brecOn.go R.length (dropR._f R s)).1))],by kernel_rfl,(by refine mcons ?_ (mcons ?_ (mcons ?_ (mcons ?_ (mcons ?_ (mcons ?_ mnil)))))<;>first|rfl|trivial|(exact nil_rows rfl))⟩
def C_rdrop:Ctr Td:=fun us sub=>match us,sub with
 |[.one (.obj 0),.one (.v (.string s))],[⟨.us (.ext (.vw [true,false,false,false] R)),false⟩]=>some ([R.length≤100000],.c (.one (.obj 1)),[⟨.us (.ext (.vw [true,false,false,false] R)),false⟩,⟨.us (.ext (.flat (.rw 109 [true,false,false,false] (dropR R s R.length)))),true⟩])
 |_,_=>none
set_option maxRecDepth 100000 in
theorem C_rdrop_ok:CtrOk Try.prog Id' 69 C_rdrop:=by
 intro us sub ps x sm h hp w e vs hM ha
 unfold C_rdrop at h
 split at h
 ·rename_i s R
  simp only [Option.some.injEq,Prod.mk.injEq] at h
  obtain ⟨rfl,rfl,rfl⟩:=h
  have hR:R.length≤100000:=hp _ (List.mem_cons_self ..)
  exact ctr_way (I:=Id') (fun (W0:World) (G:Nat→Prop)=>SyOk.mk2 Try.mixed dkHo_ok (FnsR.nil) EqsOk.nil) rfl Try.func69 (by kernel_rfl) (fun _ _=>LpsOk.cons (by kernel_rfl) (rdrop_lp R s hR _ rfl) (LpsOk.nil _)) (cs:=[]) (by kernel_rfl) (rdrop_w0 R s ) w e vs hM ha
 ·cases h
theorem R_rdrop:RowOk Try.prog Id' hardD 69 (ctrF Id' C_rdrop hardD):=ctrF_ok Try.call69 C_rdrop_ok
end Go.Proofs.Ytdenmoiaiemokaa
