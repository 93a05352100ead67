/- Z13 Z14 Z15 Z16. -/
import Derived.Test.YtdenmoiaiemokaaZ12p
import Derived.Test.YtdenmoiaiemokaaH13p
set_option linter.unusedVariables false
set_option linter.unusedSimpArgs false
namespace Go.Proofs.Ytdenmoiaiemokaa
open Go.RowKit
set_option maxRecDepth 100000 in
theorem dfA_w0 (Q:List (Int×List UInt8)) (a:Int) (h0:Q.length≤100000) (h1:(fstI Q.length (pkI Q a)==(-1:Int))=true):∃ qs,wayO Id' ([⟨.us (.ext (.tab (.wq 37 Q))),true⟩,⟨.blk [.v (.int .i64 a)],false⟩]:Mem Td).length [⟨.us (.ext (.tab (.wq 37 Q))),true⟩,⟨.blk [.v (.int .i64 a)],false⟩] (.c (.one (.obj 0))) ((runFn (⟨Try.prog,[(150,ctrF Id' C_ixp hardD),(97,ctrF Id' C_ncl hardD)],[],dkHo,Id'.one,60⟩:Sy Td) [] Try.f96 [.one (.obj 0),.fn 97 [.ptr 1 0]] [⟨.us (.ext (.tab (.wq 37 Q))),true⟩,⟨.blk [.v (.int .i64 a)],false⟩]).al [true])=some qs∧∀ q∈qs,q:=
 ⟨[Q.length≤(100000:Nat),(fstI Q.length (pkI Q a)==(-1:Int))=true,(Th.ext (Dk.tab (TB.wq 37 Q)):Td)=Th.ext (Dk.tab (TB.wq 37 Q)),Value.int IntKind.i64 a=Value.int IntKind.i64 a],by kernel_rfl,(by refine mcons ?_ (mcons ?_ (mcons ?_ (mcons ?_ mnil)))<;>first|rfl|exact h0|exact h1|trivial)⟩
set_option maxRecDepth 100000 in
theorem dfB_w0 (Q:List (Int×List UInt8)) (a:Int) (i0:Nat) (h0:Q.length≤100000) (h1:(fstI Q.length (pkI Q a)==(-1:Int))=false) (h2:IntKind.i64.wrap (fstI Q.length (pkI Q a)+1)=((i0+1+0:Nat):Int)) (h3:fstI Q.length (pkI Q a)=(i0:Int)) (h4:(0:Int)≤((dlS a Q i0 (Q.length - (i0+1))).2:Int)∧((dlS a Q i0 (Q.length - (i0+1))).2:Int)≤((dlS a Q i0 (Q.length - (i0+1))).1.length:Int)∧((dlS a Q i0 (Q.length - (i0+1))).1.length:Int)≤((dlS a Q i0 (Q.length - (i0+1))).1.length:Int)) (h5:(0:Int)≤(0:Int)∧(0:Int)≤((dlS a Q i0 (Q.length - (i0+1))).2:Int)∧((dlS a Q i0 (Q.length - (i0+1))).2:Int)≤(((dlS a Q i0 (Q.length - (i0+1))).1.take (dlS a Q i0 (Q.length - (i0+1))).2++List.replicate ((dlS a Q i0 (Q.length - (i0+1))).1.length - (dlS a Q i0 (Q.length - (i0+1))).2) (0,[])).length:Int)):∃ qs,wayO Id' ([⟨.us (.ext (.tab (.wq 37 Q))),true⟩,⟨.blk [.v (.int .i64 a)],false⟩]:Mem Td).length [⟨.us (.ext (.tab (.wq 37 ((dlS a Q i0 (Q.length - (i0+1))).1.take (dlS a Q i0 (Q.length - (i0+1))).2++List.replicate ((dlS a Q i0 (Q.length - (i0+1))).1.length - (dlS a Q i0 (Q.length - (i0+1))).2) (0,[]))))),true⟩,⟨.blk [.v (.int .i64 a)],false⟩] (.c (.one (.sub 0 2 0 (dlS a Q i0 (Q.length - (i0+1))).2))) ((runFn (⟨Try.prog,[(150,ctrF Id' C_ixp hardD),(97,ctrF Id' C_ncl hardD)],[],dkHo,Id'.one,60⟩:Sy Td) [(5,(lpG Id' 42 (hdC (loopsC (bodyOf Try.f96)) 0) 2 [(6,.c (.one (.v (.int .i64 ((i0+1+0:Nat):Int))))),(5,.c (.one (.v (.int .i64 (i0:Int)))))] [(0,.c (.one (.obj 0))),(1,.c (.fn 97 [.ptr 1 0]))] [⟨.us (.ext (.tab (.wq 37 Q))),true⟩,⟨.blk [.v (.int .i64 a)],false⟩] (.leaf (.exit 0) [(5,.c (.one (.v (.int .i64 ((dlS a Q i0 (Q.length - (i0+1))).2:Int)))))] [⟨.us (.ext (.tab (.wq 37 (dlS a Q i0 (Q.length - (i0+1))).1))),true⟩,⟨.blk [.v (.int .i64 a)],false⟩])))] Try.f96 [.one (.obj 0),.fn 97 [.ptr 1 0]] [⟨.us (.ext (.tab (.wq 37 Q))),true⟩,⟨.blk [.v (.int .i64 a)],false⟩]).al [false])=some qs∧∀ q∈qs,q:=
 ⟨[Q.length≤(100000:Nat),(fstI Q.length (pkI Q a)==(-1:Int))=false,(Th.ext (Dk.tab (TB.wq 37 Q)):Td)=Th.ext (Dk.tab (TB.wq 37 Q)),Value.int IntKind.i64 a=Value.int IntKind.i64 a,Value.int IntKind.i64 (IntKind.i64.wrap (fstI Q.length (pkI Q a)+(1:Int)))=Value.int IntKind.i64 (↑(i0+(1:Nat)+(0:Nat)):Int),Value.int IntKind.i64 (fstI Q.length (pkI Q a))=Value.int IntKind.i64 (↑i0:Int),(↑(dlS a Q i0 (Q.length - (i0+(1:Nat)))).fst.length:Int).toNat=(dlS a Q i0 (Q.length - (i0+(1:Nat)))).fst.length,(0:Int)≤(↑(dlS a Q i0 (Q.length - (i0+(1:Nat)))).snd:Int)∧(↑(dlS a Q i0 (Q.length - (i0+(1:Nat)))).snd:Int)≤(↑(dlS a Q i0 (Q.length - (i0+(1:Nat)))).fst.length:Int)∧(↑(dlS a Q i0 (Q.length - (i0+(1:Nat)))).fst.length:Int)≤(↑(dlS a Q i0 (Q.length - (i0+(1:Nat)))).fst.length:Int),(0:Int)≤(0:Int)∧(0:Int)≤(↑(dlS a Q i0 (Q.length - (i0+(1:Nat)))).snd:Int)∧(↑(dlS a Q i0 (Q.length - (i0+(1:Nat)))).snd:Int)≤(↑(List.take (↑(dlS a Q i0 (Q.length - (i0+(1:Nat)))).snd:Int).toNat (dlS a Q i0 (Q.length - (i0+(1:Nat)))).fst++List.replicate ((↑(dlS a Q i0 (Q.length - (i0+(1:Nat)))).fst.length:Int).toNat - (↑(dlS a Q i0 (Q.length - (i0+(1:Nat)))).snd:Int).toNat) ((0:Int),[])).length:Int),(Th.ext (Dk.tab (TB.wq 37 ((dlS a Q i0 (Q.length - (i0+1))).1.take (dlS a Q i0 (Q.length - (i0+1))).2++List.replicate ((dlS a Q i0 (Q.length - (i0+1))).1.length - (dlS a Q i0 (Q.length - (i0+1))).2) (0,[])))):Td)=Th.ext (Dk.tab (TB.wq 37 ((dlS a Q i0 (Q.length - (i0+1))).1.take (dlS a Q i0 (Q.length - (i0+1))).2++List.replicate ((dlS a Q i0 (Q.length - (i0+1))).1.length - (dlS a Q i0 (Q.length - (i0+1))).2) (0,[])))),Value.int IntKind.i64 a=Value.int IntKind.i64 a,(2:Nat)=(2:Nat)∧(0:Nat)=Int.toNat (0:Int)∧(dlS a Q i0 (Q.length - (i0+(1:Nat)))).snd=(↑(dlS a Q i0 (Q.length - (i0+(1:Nat)))).snd:Int).toNat],by kernel_rfl,(by refine mcons ?_ (mcons ?_ (mcons ?_ (mcons ?_ (mcons ?_ (mcons ?_ (mcons ?_ (mcons ?_ (mcons ?_ (mcons ?_ (mcons ?_ (mcons ?_ mnil)))))))))))<;>first|rfl|exact h0|exact h1|exact h2|exact h3|exact h4|exact h5|trivial|(exact congrArg (Value.int .i64) h2)|(exact congrArg (Value.int .i64) h3)|(exact ⟨rfl,rfl,rfl⟩))⟩
theorem dlS_inv (a:Int) (Q:List (Int×List UInt8)) (i0:Nat) (hi:i0<Q.length) (h0:keepP a (Q.getD i0 (0,[]))=false) (hk0:∀ q,q<i0→keepP a (Q.getD q (0,[]))=true):∀ k,i0+1+k≤Q.length→
  (dlS a Q i0 k).1.take (dlS a Q i0 k).2=(Q.take (i0+1+k)).filter (keepP a)∧∀ q,i0+1+k≤q→(dlS a Q i0 k).1[q]? =Q[q]?
 |0,_=>by
  refine ⟨?_,fun q _=>rfl⟩
  show Q.take i0=(Q.take (i0+1)).filter (keepP a)
  have hx:Q.getD i0 (0,[])=Q[i0]:=by rw [List.getD_eq_getElem?_getD,List.getElem?_eq_getElem hi];rfl
  rw [List.take_add_one,List.getElem?_eq_getElem hi,List.filter_append]
  rw [hx] at h0
  rw [show (some Q[i0]).toList=[Q[i0]] from rfl,show List.filter (keepP a) [Q[i0]]=[] by simp [h0],List.append_nil]
  symm
  rw [List.filter_eq_self]
  intro x hx'
  obtain ⟨q,hq,rfl⟩:=List.mem_iff_getElem.1 hx'
  rw [List.length_take] at hq
  have:=hk0 q (by omega)
  rw [List.getD_eq_getElem?_getD,List.getElem?_eq_getElem (by omega)] at this
  simpa using this
 |k+1,hk=>by
  obtain ⟨h1,h2⟩:=dlS_inv a Q i0 hi h0 hk0 k (by omega)
  obtain ⟨g1,g2⟩:=dlS_len a Q i0 k
  have hj:i0+1+k<Q.length:=by omega
  have hx:(dlS a Q i0 k).1.getD (i0+1+k) (0,[])=Q[i0+1+k]:=by rw [List.getD_eq_getElem?_getD,h2 _ (Nat.le_refl _),List.getElem?_eq_getElem hj];rfl
  have htk:Q.take (i0+1+(k+1))=Q.take (i0+1+k)++[Q[i0+1+k]]:=by
   rw [show i0+1+(k+1)=i0+1+k+1 by omega,List.take_add_one,List.getElem?_eq_getElem hj];rfl
  rw [htk,List.filter_append]
  unfold dlS
  rw [hx]
  cases hq:keepP a Q[i0+1+k] with
  |true=>
   simp only [cond_true]
   refine ⟨?_,fun q hq'=>?_⟩
   ·rw [← h1,show List.filter (keepP a) [Q[i0+1+k]]=[Q[i0+1+k]] by simp [hq],List.take_add_one,List.getElem?_set_self (by omega)]
    rw [List.take_set_of_le (Nat.le_refl _)]
    rfl
   ·rw [List.getElem?_set_ne (by omega)]
    exact h2 q (by omega)
  |false=>
   simp only [cond_false]
   refine ⟨?_,fun q hq'=>h2 q (by omega)⟩
   rw [h1,show List.filter (keepP a) [Q[i0+1+k]]=[] by simp [hq],List.append_nil]
theorem df_all {Q:List (Int×List UInt8)} {a:Int} (h:∀ i:Int,((0:Nat):Int)≤i→i.toNat<Q.length→pkI Q a i=true):Q.filter (keepP a)=Q:=by
 rw [List.filter_eq_self]
 intro x hx
 obtain ⟨q,hq,rfl⟩:=List.mem_iff_getElem.1 hx
 have:keepP a (Q.getD q (0,[]))=true:=h (q:Int) (by omega) (by simpa using hq)
 rw [List.getD_eq_getElem?_getD,List.getElem?_eq_getElem hq] at this
 simpa using this
def C_delf:Ctr Td:=fun us sub=>match us,sub with
 |[.one (.obj 0),.fn f [.ptr 1 0]],[⟨.us (.ext (.tab (.wq t Q))),true⟩,⟨.blk [.v (.int .i64 a)],false⟩]=>(match eqb f 97&&eqb t 37 with
  |true=>some ([Q.length≤100000],.c (.one (.obj 2)),[⟨.dead,true⟩,⟨.blk [.v (.int .i64 a)],false⟩,⟨.us (.ext (.tab (.wq 37 (Q.filter (keepP a))))),true⟩])
  |false=>none)
 |_,_=>none
theorem tab_self {W0:World} {G:Nat→Prop} {w:World} {e:Env} {mem:Mem Td} (hM:MemOk W0 G Id' w e mem) {i x:Nat} {Q:List (Int×List UInt8)} {v:Value} (hm:mem[i]? =some ⟨.us (.ext (.tab (.wq x Q))),true⟩) (hv:e[i]? =some v):(PV.sub i 2 0 Q.length).is e v:=by
 obtain ⟨B,vals,hL⟩:=tab_lie (hM.holds i _ _ hv hm)
 have hR:=Rs.of_owns hL.own
 rw [TB.len] at hR
 obtain ⟨_,ao,cap,hvv,hcap,_⟩:=hR
 have hvv:v=.slice ao Q.length cap:=hvv
 refine ⟨ao,Q.length,cap,by rw [← hvv];exact hv,Nat.zero_le _,Nat.le_refl _,?_⟩
 rw [hvv,Nat.sub_zero,Nat.sub_zero,Nat.zero_mul]
 cases ao with
 |none=>split<;>rfl
 |some y=>
  split
  ·rfl
  ·simp [Addr.add]
set_option maxRecDepth 100000 in
theorem C_delf_ok:CtrOk Try.prog Id' 96 C_delf:=by
 intro us sub ps x sm h hp w e vs hM ha
 unfold C_delf at h
 split at h
 ·rename_i f t Q a
  split at h
  ·rename_i hb
   rw [Bool.and_eq_true] at hb
   obtain rfl:=eqb_eq.1 hb.1
   obtain rfl:=eqb_eq.1 hb.2
   simp only [Option.some.injEq,Prod.mk.injEq] at h
   obtain ⟨rfl,rfl,rfl⟩:=h
   have hL:Q.length≤100000:=hp _ (List.mem_cons_self ..)
   have hend:∀ {e':Env} {v:Value} {w':World} {m:Mem Td} {G:Nat→Prop},MemOk w G Id' w' e' m→m.length=2→(e'++[v])[2]? =some v:=fun hM' hl=>by
    rw [List.getElem?_append_right (by rw [hM'.len];omega),hM'.len,hl];rfl
   rcases fst_cases Q.length (pkI Q a) with ⟨hv,hall⟩|⟨h1,h2,h3,h4⟩
   ·refine (ctr_way (I:=Id') (fun (W0:World) (G:Nat→Prop)=>SyOk.mk2 Try.mixed dkHo_ok (FnsR.cons (R_ixp) (FnsR.cons (R_ncl) (FnsR.nil))) EqsOk.nil) rfl Try.func96 (by kernel_rfl) (fun W0 G=>LpsOk.nil _) (cs:=[true]) (by kernel_rfl) (dfA_w0 Q a hL (by rw [hv];rfl)) w e vs hM ha).mono fun y w' ⟨v,e',g1,g2,g3,g4⟩=>⟨v,e'++[v],g1,g2.trans (Grows.push e' v),hend g4 rfl,?_⟩
    have g5:=tab_front g4 (i:=0) rfl (tab_self g4 (i:=0) rfl g3)
    rw [List.take_of_length_le (Nat.le_refl _)] at g5
    rw [df_all hall]
    exact g5
   ·obtain ⟨i0,hi0⟩:∃ i0:Nat,fstI Q.length (pkI Q a)=(i0:Int):=⟨_,(Int.toNat_of_nonneg h1).symm⟩
    have hi:i0<Q.length:=by rw [hi0] at h2;simpa using h2
    obtain ⟨l1,l2⟩:=dlS_len a Q i0 (Q.length - (i0+1))
    have hk:=(dlS_inv a Q i0 hi (by rw [hi0] at h3;exact h3) (fun q hq=>by have:=h4 (q:Int) (by omega) (by omega);exact this) (Q.length - (i0+1)) (by omega)).1
    rw [List.take_of_length_le (l:=Q) (by omega)] at hk
    refine (ctr_way (I:=Id') (fun (W0:World) (G:Nat→Prop)=>SyOk.mk2 Try.mixed dkHo_ok (FnsR.cons (R_ixp) (FnsR.cons (R_ncl) (FnsR.nil))) EqsOk.nil) rfl Try.func96 (by kernel_rfl) (fun W0 G=>LpsOk.cons (by kernel_rfl) (dlp_lp Q a i0 hL hi _ rfl) (LpsOk.nil _)) (cs:=[false]) (by kernel_rfl) (dfB_w0 Q a i0 hL (beq_eq_false_iff_ne.2 (by omega)) (by rw [hi0,IntWalk.i64_in _ (by omega)];omega) hi0 ⟨by omega,by omega,by omega⟩ ⟨Int.le_refl _,by omega,by rw [List.length_append,List.length_take,List.length_replicate];omega⟩) w e vs hM ha).mono fun y w' ⟨v,e',g1,g2,g3,g4⟩=>⟨v,e'++[v],g1,g2.trans (Grows.push e' v),hend g4 rfl,?_⟩
    have g5:=tab_front g4 (i:=0) rfl g3
    rw [List.take_append_of_le_length (by rw [List.length_take];omega),List.take_take,Nat.min_self,hk] at g5
    exact g5
  ·cases h
 ·cases h
theorem R_delf:RowOk Try.prog Id' hardD 96 (ctrF Id' C_delf hardD):=ctrF_ok Try.call96 C_delf_ok
end Go.Proofs.Ytdenmoiaiemokaa
set_option linter.unusedVariables false
set_option linter.unusedSimpArgs false
namespace Go.Proofs.Ytdenmoiaiemokaa
open Go.RowKit
theorem cut_none {Q:List (Int×List UInt8)} (h:decide ((Q.length:Int)>0)=false):Q=[]:=by
 have:=of_decide_eq_false h
 exact List.eq_nil_of_length_eq_zero (by omega)
set_option maxRecDepth 100000 in
theorem ncut_w0 (Q:List (Int×List UInt8)) (a:Int) (h0:decide ((Q.length:Int)>0)=true) (h1:Q.length≤100000):∃ qs,wayO Id' ([⟨.bx [.obj 1],true⟩,⟨.us (.ext (.tab (.wq 37 Q))),true⟩]:Mem Td).length [⟨.bx [.obj 2],true⟩,⟨.dead,true⟩,⟨.us (.ext (.tab (.wq 37 (Q.filter (keepP a))))),true⟩] (.c (.one (.v (.int .i64 (IntKind.i64.wrap ((Q.length:Int) - ((Q.filter (keepP a)).length:Int))))))) ((runFn (⟨Try.prog,[(27,ctrF Id' C_nlen hardD),(96,ctrF Id' C_delf hardD)],[],dkHo,Id'.one,60⟩:Sy Td) [(100003,mapG (modAt fzE 2) (⟨Try.prog,[(27,ctrF Id' C_nlen hardD),(96,ctrF Id' C_delf hardD)],[],dkHo,Id'.one,60⟩:Sy Td) 23 (regO 3 (bodyOf Try.f25)) (drwR 3 (bodyOf Try.f25)))] Try.f25 [.one (.ptr 0 0),.one (.v (.int .i64 a))] [⟨.bx [.obj 1],true⟩,⟨.us (.ext (.tab (.wq 37 Q))),true⟩]).al [true])=some qs∧∀ q∈qs,q:=
 ⟨[decide ((↑Q.length:Int)>(0:Int))=true,Q.length≤(100000:Nat),(Th.ext (Dk.tab (TB.wq 37 (Q.filter (keepP a)))):Td)=Th.ext (Dk.tab (TB.wq 37 (Q.filter (keepP a)))),Value.int IntKind.i64 (IntKind.i64.wrap ((↑Q.length:Int) - (↑(List.filter (keepP a) Q).length:Int)))=Value.int IntKind.i64 (IntKind.i64.wrap ((↑Q.length:Int) - (↑(List.filter (keepP a) Q).length:Int)))],by kernel_rfl,(by refine mcons ?_ (mcons ?_ (mcons ?_ (mcons ?_ mnil)))<;>first|rfl|exact h0|exact h1|trivial|(rw [cut_none h0];rfl))⟩
set_option maxRecDepth 100000 in
theorem ncut_w1 (Q:List (Int×List UInt8)) (a:Int) (h0:decide ((Q.length:Int)>0)=false):∃ qs,wayO Id' ([⟨.bx [.obj 1],true⟩,⟨.us (.ext (.tab (.wq 37 Q))),true⟩]:Mem Td).length [⟨.bx [.obj 2],true⟩,⟨.dead,true⟩,⟨.us (.ext (.tab (.wq 37 (Q.filter (keepP a))))),true⟩] (.c (.one (.v (.int .i64 (IntKind.i64.wrap ((Q.length:Int) - ((Q.filter (keepP a)).length:Int))))))) ((runFn (⟨Try.prog,[(27,ctrF Id' C_nlen hardD),(96,ctrF Id' C_delf hardD)],[],dkHo,Id'.one,60⟩:Sy Td) [(100003,mapG (modAt fzE 2) (⟨Try.prog,[(27,ctrF Id' C_nlen hardD),(96,ctrF Id' C_delf hardD)],[],dkHo,Id'.one,60⟩:Sy Td) 23 (regO 3 (bodyOf Try.f25)) (drwR 3 (bodyOf Try.f25)))] Try.f25 [.one (.ptr 0 0),.one (.v (.int .i64 a))] [⟨.bx [.obj 1],true⟩,⟨.us (.ext (.tab (.wq 37 Q))),true⟩]).al [false])=some qs∧∀ q∈qs,q:=
 ⟨[decide ((↑Q.length:Int)>(0:Int))=false,(Th.ext (Dk.tab (TB.wq 37 Q)):Td)=Th.ext (Dk.tab (TB.wq 37 (Q.filter (keepP a)))),Value.int IntKind.i64 (IntKind.i64.wrap ((↑Q.length:Int) - (↑Q.length:Int)))=Value.int IntKind.i64 (IntKind.i64.wrap ((↑Q.length:Int) - (↑(List.filter (keepP a) Q).length:Int)))],by kernel_rfl,(by refine mcons ?_ (mcons ?_ (mcons ?_ mnil))<;>first|rfl|exact h0|trivial|(rw [cut_none h0];rfl))⟩
def C_ncut:Ctr Td:=fun us sub=>match us,sub with
 |[.one (.ptr 0 0),.one (.v (.int .i64 a))],[⟨.bx [.obj 1],true⟩,⟨.us (.ext (.tab (.wq 37 Q))),true⟩]=>some ([Q.length≤100000],.c (.one (.v (.int .i64 (IntKind.i64.wrap ((Q.length:Int) - ((Q.filter (keepP a)).length:Int)))))),[⟨.bx [.obj 2],true⟩,⟨.dead,true⟩,⟨.us (.ext (.tab (.wq 37 (Q.filter (keepP a))))),true⟩])
 |_,_=>none
set_option maxRecDepth 100000 in
theorem C_ncut_ok:CtrOk Try.prog Id' 25 C_ncut:=by
 intro us sub ps x sm h hp w e vs hM ha
 unfold C_ncut at h
 split at h
 ·rename_i a Q
  simp only [Option.some.injEq,Prod.mk.injEq] at h
  obtain ⟨rfl,rfl,rfl⟩:=h
  have hL:Q.length≤100000:=hp _ (List.mem_cons_self ..)
  cases h0:decide ((Q.length:Int)>0) with
  |true=>exact ctr_way (I:=Id') (fun (W0:World) (G:Nat→Prop)=>SyOk.mk2 Try.mixed dkHo_ok (FnsR.cons (R_nlen) (FnsR.cons (R_delf) (FnsR.nil))) EqsOk.nil) rfl Try.func25 (by kernel_rfl) (fun W0 G=>LpsOk.cons (by kernel_rfl) (mapG_sound (id:=3) ((fun (W0:World) (G:Nat→Prop)=>SyOk.mk2 Try.mixed dkHo_ok (FnsR.cons (R_nlen) (FnsR.cons (R_delf) (FnsR.nil))) EqsOk.nil) W0 G) rfl (fun w e mem h=>fz_ok (W0:=W0) (G:=G) 2 w e mem h)) (LpsOk.nil _)) (cs:=[true]) (by kernel_rfl) (ncut_w0 Q a h0 hL) w e vs hM ha
  |false=>exact ctr_way (I:=Id') (fun (W0:World) (G:Nat→Prop)=>SyOk.mk2 Try.mixed dkHo_ok (FnsR.cons (R_nlen) (FnsR.cons (R_delf) (FnsR.nil))) EqsOk.nil) rfl Try.func25 (by kernel_rfl) (fun W0 G=>LpsOk.cons (by kernel_rfl) (mapG_sound (id:=3) ((fun (W0:World) (G:Nat→Prop)=>SyOk.mk2 Try.mixed dkHo_ok (FnsR.cons (R_nlen) (FnsR.cons (R_delf) (FnsR.nil))) EqsOk.nil) W0 G) rfl (fun w e mem h=>fz_ok (W0:=W0) (G:=G) 2 w e mem h)) (LpsOk.nil _)) (cs:=[false]) (by kernel_rfl) (ncut_w1 Q a h0) w e vs hM ha
 ·cases h
theorem R_ncut:RowOk Try.prog Id' hardD 25 (ctrF Id' C_ncut hardD):=ctrF_ok Try.call25 C_ncut_ok
def C_rcut:Ctr Td:=fun us sub=>match us,sub with
 |[.one (.ptr 0 0),.one (.v (.int .i64 a))],[⟨.bx [.obj 1],true⟩,⟨.us (.ext (.tab (.wq 39 Q))),true⟩]=>some ([Q.length≤1000],.c (.one (.v (.int .i64 (IntKind.i64.wrap ((Q.length:Int) - ((Q.filter (keepP a)).length:Int)))))),[⟨.bx [.obj 2],true⟩,⟨.dead,true⟩,⟨.us (.ext (.tab (.wq 39 (Q.filter (keepP a))))),true⟩])
 |_,_=>none
theorem C_rcut_ok:CtrOk Try.prog Id' 26 C_rcut:=by
 intro us sub ps x sm h hp w e vs hM ha
 unfold C_rcut at h
 split at h
 ·rename_i a Q
  simp only [Option.some.injEq,Prod.mk.injEq] at h
  obtain ⟨rfl,rfl,rfl⟩:=h
  have e1:ctQ Q a Q.length=(Q.filter (keepP a)):=ctQ_all Q a
  have key:some ([Q.length≤1000],(.c (.one (.v (.int .i64 (IntKind.i64.wrap ((Q.length:Int) - ((Q.filter (keepP a)).length:Int)))))):SV),([⟨.bx [.obj 2],true⟩,⟨.dead,true⟩,⟨.us (.ext (.tab (.wq 39 (Q.filter (keepP a))))),true⟩]:Mem Td))=C_rct [.one (.ptr 0 0),.one (.v (.int .i64 a))] [⟨.bx [.obj 1],true⟩,⟨.us (.ext (.tab (.wq 39 Q))),true⟩]:=by rw [← e1];rfl
  exact C_rct_ok _ _ _ _ _ key.symm hp w e vs hM ha
 ·cases h
theorem R_rcut:RowOk Try.prog Id' hardD 26 (ctrF Id' C_rcut hardD):=ctrF_ok Try.call26 C_rcut_ok
end Go.Proofs.Ytdenmoiaiemokaa
set_option linter.unusedVariables false
set_option linter.unusedSimpArgs false
namespace Go.Proofs.Ytdenmoiaiemokaa
open Go.RowKit
theorem bad_end (Q:List (Int×List UInt8)):(decide ((Q.length:Int)<0)||decide ((Q.length:Int)≥(Q.length:Int)))=true:=by simp
def dbQ (Q:List (Int×List UInt8)) (i:Int):List (Int×List UInt8):=bif decide (i<0)||decide (i≥(Q.length:Int)) then Q else sdQ Q (Q.getD i.toNat (0,[])).1 (Q.getD i.toNat (0,[])).2
theorem getD_mem {Q:List (Int×List UInt8)} {i:Int} (h:0≤i∧i.toNat<Q.length):Q.getD i.toNat (0,[])∈Q:=by
 rw [List.getD_eq_getElem?_getD,List.getElem?_eq_getElem h.2]
 exact List.getElem_mem ..
theorem bad_not {Q:List (Int×List UInt8)} {i:Int} (h:(decide (i<0)||decide (i≥(Q.length:Int)))=false):0≤i∧i.toNat<Q.length:=by
 rw [Bool.or_eq_false_iff,decide_eq_false_iff_not,decide_eq_false_iff_not] at h
 omega
theorem bad_no {Q:List (Int×List UInt8)} {i:Int} (h:0≤i∧i.toNat<Q.length):(decide (i<0)||decide (i≥(Q.length:Int)))=false:=by
 rw [Bool.or_eq_false_iff,decide_eq_false_iff_not,decide_eq_false_iff_not]
 omega
set_option maxRecDepth 100000 in
theorem dblA_w0 (Q:List (Int×List UInt8)) (i:Int) (h0:0≤i∧i.toNat<Q.length) (h1:(decide (i<0)||decide (i≥(Q.length:Int)))=false) (h2:(Q.getD i.toNat (0,[])).2.length≤1000000) (h3:Q.length≤1000):∃ qs,wayO Id' ([⟨.bx [.obj 2],true⟩,⟨.bx [.obj 3],true⟩,⟨.us (.ext (.tab (.wq 37 Q))),true⟩,⟨.us (.ext (.tab (.wq 39 Q))),true⟩]:Mem Td).length [⟨.bx [.obj 4],true⟩,⟨.bx [.obj 5],true⟩,⟨.dead,true⟩,⟨.dead,true⟩,⟨.us (.ext (.tab (.wq 37 (dbQ Q i)))),true⟩,⟨.us (.ext (.tab (.wq 39 (dbQ Q i)))),true⟩] (svV (.bool true)) ((runFn (⟨Try.prog,[(19,ctrF Id' C_rat hardD),(17,ctrF Id' C_rsend hardD),(95,ctrF Id' C_ncopy hardD)],[],dkHo,Id'.one,60⟩:Sy Td) [] Try.f24 [.one (.ptr 0 0),.one (.ptr 1 0),.one (.v (.int .i64 i))] [⟨.bx [.obj 2],true⟩,⟨.bx [.obj 3],true⟩,⟨.us (.ext (.tab (.wq 37 Q))),true⟩,⟨.us (.ext (.tab (.wq 39 Q))),true⟩]).al [true])=some qs∧∀ q∈qs,q:=
 ⟨[(0:Int)≤i∧i.toNat<Q.length,(decide (i<(0:Int))||decide (i≥(↑Q.length:Int)))=false,true=true,(Q.getD i.toNat ((0:Int),[])).snd.length≤(1000000:Nat),Q.length+(1:Nat)≤(100000:Nat),(0:Int)≤i∧i.toNat<Q.length,(decide (i<(0:Int))||decide (i≥(↑Q.length:Int)))=false,(Q.getD i.toNat ((0:Int),[])).snd.length≤(1000000:Nat),Q.length≤(1000:Nat),(Th.ext (Dk.tab (TB.wq 37 (sdQ Q (Q.getD i.toNat ((0:Int),[])).fst (Q.getD i.toNat ((0:Int),[])).snd))):Td)=Th.ext (Dk.tab (TB.wq 37 (dbQ Q i))),(Th.ext (Dk.tab (TB.wq 39 (sdQ Q (Q.getD i.toNat ((0:Int),[])).fst (Q.getD i.toNat ((0:Int),[])).snd))):Td)=Th.ext (Dk.tab (TB.wq 39 (dbQ Q i))),Value.bool (sdE Q (Q.getD i.toNat ((0:Int),[])).fst==sdE Q (Q.getD i.toNat ((0:Int),[])).fst)=Value.bool true],by kernel_rfl,(by refine mcons ?_ (mcons ?_ (mcons ?_ (mcons ?_ (mcons ?_ (mcons ?_ (mcons ?_ (mcons ?_ (mcons ?_ (mcons ?_ (mcons ?_ (mcons ?_ mnil)))))))))))<;>first|rfl|exact h0|exact h1|exact h2|exact h3|trivial|(exact h0)|(exact h1)|(exact h2)|(exact h3)|(exact congrArg (fun x=>(Th.ext (Dk.tab (TB.wq 37 x)):Td)) (show _=dbQ Q i by unfold dbQ;rw [h1];rfl))|(exact congrArg (fun x=>(Th.ext (Dk.tab (TB.wq 39 x)):Td)) (show _=dbQ Q i by unfold dbQ;rw [h1];rfl))|(exact congrArg (fun x=>(Th.ext (Dk.tab (TB.wq 37 x)):Td)) (show _=dbQ Q i by unfold dbQ;rw [h0];rfl))|(exact congrArg (fun x=>(Th.ext (Dk.tab (TB.wq 39 x)):Td)) (show _=dbQ Q i by unfold dbQ;rw [h0];rfl))|(exact congrArg Value.bool (beq_self_eq_true _))|(exact by have:=h3;omega))⟩
set_option maxRecDepth 100000 in
theorem dblB_w0 (Q:List (Int×List UInt8)) (i:Int) (h0:(decide (i<0)||decide (i≥(Q.length:Int)))=true):∃ qs,wayO Id' ([⟨.bx [.obj 2],true⟩,⟨.bx [.obj 3],true⟩,⟨.us (.ext (.tab (.wq 37 Q))),true⟩,⟨.us (.ext (.tab (.wq 39 Q))),true⟩]:Mem Td).length [⟨.bx [.obj 4],true⟩,⟨.bx [.obj 5],true⟩,⟨.dead,true⟩,⟨.dead,true⟩,⟨.us (.ext (.tab (.wq 37 (dbQ Q i)))),true⟩,⟨.us (.ext (.tab (.wq 39 (dbQ Q i)))),true⟩] (svV (.bool true)) ((runFn (⟨Try.prog,[(19,ctrF Id' C_ratN hardD),(17,ctrF Id' C_rsend hardD),(95,ctrF Id' C_ncopyN hardD)],[],dkHo,Id'.one,60⟩:Sy Td) [] Try.f24 [.one (.ptr 0 0),.one (.ptr 1 0),.one (.v (.int .i64 i))] [⟨.bx [.obj 2],true⟩,⟨.bx [.obj 3],true⟩,⟨.us (.ext (.tab (.wq 37 Q))),true⟩,⟨.us (.ext (.tab (.wq 39 Q))),true⟩]).al [false])=some qs∧∀ q∈qs,q:=
 ⟨[(decide (i<(0:Int))||decide (i≥(↑Q.length:Int)))=true,false=false,(decide (i<(0:Int))||decide (i≥(↑Q.length:Int)))=true,(Th.ext (Dk.tab (TB.wq 37 Q)):Td)=Th.ext (Dk.tab (TB.wq 37 (dbQ Q i))),(Th.ext (Dk.tab (TB.wq 39 Q)):Td)=Th.ext (Dk.tab (TB.wq 39 (dbQ Q i))),Value.bool true=Value.bool true],by kernel_rfl,(by refine mcons ?_ (mcons ?_ (mcons ?_ (mcons ?_ (mcons ?_ (mcons ?_ mnil)))))<;>first|rfl|exact h0|trivial|(exact h0)|(exact h1)|(exact h2)|(exact h3)|(exact congrArg (fun x=>(Th.ext (Dk.tab (TB.wq 37 x)):Td)) (show _=dbQ Q i by unfold dbQ;rw [h1];rfl))|(exact congrArg (fun x=>(Th.ext (Dk.tab (TB.wq 39 x)):Td)) (show _=dbQ Q i by unfold dbQ;rw [h1];rfl))|(exact congrArg (fun x=>(Th.ext (Dk.tab (TB.wq 37 x)):Td)) (show _=dbQ Q i by unfold dbQ;rw [h0];rfl))|(exact congrArg (fun x=>(Th.ext (Dk.tab (TB.wq 39 x)):Td)) (show _=dbQ Q i by unfold dbQ;rw [h0];rfl))|(exact congrArg Value.bool (beq_self_eq_true _))|(exact by have:=h3;omega))⟩
def C_dbl:Ctr Td:=fun us sub=>match us,sub with
 |[.one (.ptr 0 0),.one (.ptr 1 0),.one (.v (.int .i64 i))],[⟨.bx [.obj 2],true⟩,⟨.bx [.obj 3],true⟩,⟨.us (.ext (.tab (.wq 37 Q))),true⟩,⟨.us (.ext (.tab (.wq 39 Q2))),true⟩]=>some ([Q=Q2,∀ q∈Q,q.2.length≤1000000,Q.length≤1000],svV (.bool true),[⟨.bx [.obj 4],true⟩,⟨.bx [.obj 5],true⟩,⟨.dead,true⟩,⟨.dead,true⟩,⟨.us (.ext (.tab (.wq 37 (dbQ Q i)))),true⟩,⟨.us (.ext (.tab (.wq 39 (dbQ Q i)))),true⟩])
 |_,_=>none
set_option maxRecDepth 100000 in
theorem C_dbl_ok:CtrOk Try.prog Id' 24 C_dbl:=by
 intro us sub ps x sm h hp w e vs hM ha
 unfold C_dbl at h
 split at h
 ·rename_i i Q Q2
  simp only [Option.some.injEq,Prod.mk.injEq] at h
  obtain ⟨rfl,rfl,rfl⟩:=h
  have hE:Q=Q2:=hp _ (List.mem_cons_self ..)
  have hS:∀ q∈Q,q.2.length≤1000000:=hp _ (List.mem_cons_of_mem _ (List.mem_cons_self ..))
  have hL:Q.length≤1000:=hp _ (List.mem_cons_of_mem _ (List.mem_cons_of_mem _ (List.mem_cons_self ..)))
  subst hE
  cases h0:(decide (i<0)||decide (i≥(Q.length:Int))) with
  |true=>exact ctr_way (I:=Id') (fun (W0:World) (G:Nat→Prop)=>SyOk.mk2 Try.mixed dkHo_ok (FnsR.cons (R_ratN) (FnsR.cons (R_rsend) (FnsR.cons (R_ncopyN) (FnsR.nil)))) EqsOk.nil) rfl Try.func24 (by kernel_rfl) (fun W0 G=>LpsOk.nil _) (cs:=[false]) (by kernel_rfl) (dblB_w0 Q i h0) w e vs hM ha
  |false=>
   have hi:=bad_not h0
   exact ctr_way (I:=Id') (fun (W0:World) (G:Nat→Prop)=>SyOk.mk2 Try.mixed dkHo_ok (FnsR.cons (R_rat) (FnsR.cons (R_rsend) (FnsR.cons (R_ncopy) (FnsR.nil)))) EqsOk.nil) rfl Try.func24 (by kernel_rfl) (fun W0 G=>LpsOk.nil _) (cs:=[true]) (by kernel_rfl) (dblA_w0 Q i hi h0 (hS _ (getD_mem hi)) hL) w e vs hM ha
 ·cases h
theorem R_dbl:RowOk Try.prog Id' hardD 24 (ctrF Id' C_dbl hardD):=ctrF_ok Try.call24 C_dbl_ok
set_option maxRecDepth 100000 in
theorem alk_n (Q:List (Int×List UInt8)) (k:Nat) (f:Nat→Value) (h0:decide ((k:Int)<(Q.length:Int))=true) (h1:IntKind.i64.wrap ((k:Int)+1)=((k+1:Nat):Int)) (h2:0≤(k:Int)∧(k:Int).toNat<Q.length) (h3:(decide ((k:Int)<0)||decide ((k:Int)≥(Q.length:Int)))=false) (h4:(Q.getD k (0,[])).2.length≤1000000) (h5:((0:Int) != 0||(Q.getD k (0,[])).1 != (Q.getD k (0,[])).1)=false) (h6:(!decide ((Q.getD k (0,[])).2=(Q.getD k (0,[])).2))=false):∃ qs,alN Id' 4 [(5,.c (.one (.v (.int .i64 ((k+1:Nat):Int)))))] [⟨.bx [.obj 2],true⟩,⟨.bx [.obj 3],true⟩,⟨.us (.ext (.tab (.wq 37 Q))),true⟩,⟨.us (.ext (.tab (.wq 39 Q))),true⟩] ((symC (⟨Try.prog,[(18,ctrF Id' C_nat hardD),(F_rsame:Nat×Fn2 Td)],[],dkHo,Id'.one,60⟩:Sy Td) [] 66 (hdC (loopsC (bodyOf Try.f31)) 0) ⟨[(5,.c (.one (.v (.int .i64 (k:Int)))))]++anyB' (writesC (hdC (loopsC (bodyOf Try.f31)) 0)) ([(0,.c (.one (.ptr 0 0))),(1,.c (.one (.ptr 1 0)))]++tabV f 66),[⟨.bx [.obj 2],true⟩,⟨.bx [.obj 3],true⟩,⟨.us (.ext (.tab (.wq 37 Q))),true⟩,⟨.us (.ext (.tab (.wq 39 Q))),true⟩],0⟩).al [true,false,false])=some qs∧∀ q∈qs,q:=
 ⟨[decide ((↑k:Int)<(↑(TB.wq 39 Q).n:Int))=true,(0:Int)≤(↑k:Int)∧(↑k:Int).toNat<Q.length,(decide ((↑k:Int)<(0:Int))||decide ((↑k:Int)≥(↑Q.length:Int)))=false,(Q.getD (↑k:Int).toNat ((0:Int),[])).snd.length≤(1000000:Nat),((0:Int) != (0:Int)||(Q.getD (↑k:Int).toNat ((0:Int),[])).fst != (TB.wq 39 Q).int (↑k:Int))=false,(0:Int)≤(↑k:Int)∧(↑k:Int).toNat<(TB.wq 39 Q).n,((0:Int) != (0:Int)||(Q.getD (↑k:Int).toNat ((0:Int),[])).fst != (TB.wq 39 Q).int (↑k:Int))=false,true=true→(0:Int)≤(↑k:Int)∧(↑k:Int).toNat<(TB.wq 39 Q).n,(!decide ((Q.getD (↑k:Int).toNat ((0:Int),[])).snd=(TB.wq 39 Q).byt (↑k:Int)))=false,(Th.ext (Dk.tab (TB.wq 37 Q)):Td)=Th.ext (Dk.tab (TB.wq 37 Q)),(Th.ext (Dk.tab (TB.wq 39 Q)):Td)=Th.ext (Dk.tab (TB.wq 39 Q)),Value.int IntKind.i64 (IntKind.i64.wrap ((↑k:Int)+(1:Int)))=Value.int IntKind.i64 (↑(k+(1:Nat)):Int)],by kernel_rfl,(by refine mcons ?_ (mcons ?_ (mcons ?_ (mcons ?_ (mcons ?_ (mcons ?_ (mcons ?_ (mcons ?_ (mcons ?_ (mcons ?_ (mcons ?_ (mcons ?_ mnil)))))))))))<;>first|rfl|exact h0|exact h1|exact h2|exact h3|exact h4|exact h5|exact h6|trivial|(exact fun _=>h2)|(exact congrArg (Value.int .i64) h1))⟩
set_option maxRecDepth 100000 in
theorem alk_x (Q:List (Int×List UInt8)) (k:Nat) (f:Nat→Value) (h0:decide ((k:Int)<(Q.length:Int))=false):∃ qs,alX Id' 4 0 [] [⟨.bx [.obj 2],true⟩,⟨.bx [.obj 3],true⟩,⟨.us (.ext (.tab (.wq 37 Q))),true⟩,⟨.us (.ext (.tab (.wq 39 Q))),true⟩] ((symC (⟨Try.prog,[(18,ctrF Id' C_nat hardD),(F_rsame:Nat×Fn2 Td)],[],dkHo,Id'.one,60⟩:Sy Td) [] 66 (hdC (loopsC (bodyOf Try.f31)) 0) ⟨[(5,.c (.one (.v (.int .i64 (k:Int)))))]++anyB' (writesC (hdC (loopsC (bodyOf Try.f31)) 0)) ([(0,.c (.one (.ptr 0 0))),(1,.c (.one (.ptr 1 0)))]++tabV f 66),[⟨.bx [.obj 2],true⟩,⟨.bx [.obj 3],true⟩,⟨.us (.ext (.tab (.wq 37 Q))),true⟩,⟨.us (.ext (.tab (.wq 39 Q))),true⟩],0⟩).al [false])=some qs∧∀ q∈qs,q:=
 ⟨[decide ((↑k:Int)<(↑(TB.wq 39 Q).n:Int))=false,(Th.ext (Dk.tab (TB.wq 37 Q)):Td)=Th.ext (Dk.tab (TB.wq 37 Q)),(Th.ext (Dk.tab (TB.wq 39 Q)):Td)=Th.ext (Dk.tab (TB.wq 39 Q))],by kernel_rfl,(by refine mcons ?_ (mcons ?_ (mcons ?_ mnil))<;>first|rfl|exact h0|trivial)⟩
set_option maxRecDepth 100000 in
theorem alk_lp (Q:List (Int×List UInt8)) (hS:∀ q∈Q,q.2.length≤1000000) (hQ:Q.length≤1000) {W0:World} {G:Nat→Prop} (S0:Sy Td) (hS0:S0.P=Try.prog):LoopSound S0 Id' W0 G 66 (hdC (loopsC (bodyOf Try.f31)) 0) (lpG Id' 66 (hdC (loopsC (bodyOf Try.f31)) 0) 4 [(5,.c (.one (.v (.int .i64 ((0:Nat):Int)))))] [(0,.c (.one (.ptr 0 0))),(1,.c (.one (.ptr 1 0)))] [⟨.bx [.obj 2],true⟩,⟨.bx [.obj 3],true⟩,⟨.us (.ext (.tab (.wq 37 Q))),true⟩,⟨.us (.ext (.tab (.wq 39 Q))),true⟩] (.leaf (.exit 0) [] [⟨.bx [.obj 2],true⟩,⟨.bx [.obj 3],true⟩,⟨.us (.ext (.tab (.wq 37 Q))),true⟩,⟨.us (.ext (.tab (.wq 39 Q))),true⟩])):=by
 refine lp_sound (V:=fun k=>[(5,.c (.one (.v (.int .i64 (k:Int)))))]) (M:=(fun k=>[⟨.bx [.obj 2],true⟩,⟨.bx [.obj 3],true⟩,⟨.us (.ext (.tab (.wq 37 Q))),true⟩,⟨.us (.ext (.tab (.wq 39 Q))),true⟩]:Nat→Mem Td)) (N:=Q.length) (Ux:=fun k x=>match x with|.exit 0=>some ([],([⟨.bx [.obj 2],true⟩,⟨.bx [.obj 3],true⟩,⟨.us (.ext (.tab (.wq 37 Q))),true⟩,⟨.us (.ext (.tab (.wq 39 Q))),true⟩]:Mem Td))|_=>none) (X:=fun _ _=>True) (J:=fun k=>True) (fun k=>by kernel_rfl) trivial (fun k hk hJ f=>?_) (fun K hK k x U hk hU hX=>?_)
 ·rw [hS0]
  cases hT:decide ((k:Int)<(Q.length:Int)) with
  |false=>
   exact rnd_xD (⟨Try.prog,[(18,ctrF Id' C_nat hardD),(F_rsame:Nat×Fn2 Td)],[],dkHo,Id'.one,60⟩:Sy Td) rfl ((fun (W0:World) (G:Nat→Prop)=>SyOk.mk2 Try.mixed dkHo_ok (FnsR.cons (R_nat) (FnsR.cons (F_rsame_ok (J:=dkI) (hx:=hardDk)) (FnsR.nil))) EqsOk.nil) W0 G) (alk_x Q k f hT) rfl trivial
  |true=>
   have hk1:k<Q.length:=by rw [ltNI hT]
   have hW:IntKind.i64.wrap ((k:Int)+1)=((k+1:Nat):Int):=by rw [IntWalk.i64_in _ (by omega)];omega
   have hi:0≤(k:Int)∧(k:Int).toNat<Q.length:=⟨by omega,by omega⟩
   exact rnd_nD (⟨Try.prog,[(18,ctrF Id' C_nat hardD),(F_rsame:Nat×Fn2 Td)],[],dkHo,Id'.one,60⟩:Sy Td) rfl ((fun (W0:World) (G:Nat→Prop)=>SyOk.mk2 Try.mixed dkHo_ok (FnsR.cons (R_nat) (FnsR.cons (F_rsame_ok (J:=dkI) (hx:=hardDk)) (FnsR.nil))) EqsOk.nil) W0 G) (alk_n Q k f hT hW hi (bad_no hi) (hS _ (getD_mem hi)) (by simp) (by simp)) rfl rfl (by omega) trivial
 ·revert hU
  match x with
  |.exit 0=>intro hU;simp only [Option.some.injEq] at hU;subst hU;exact hK
  |.normal=>intro hU;cases hU
  |.ret=>intro hU;cases hU
  |.exit (n+1)=>intro hU;cases hU
set_option maxRecDepth 100000 in
theorem alk_w0 (Q:List (Int×List UInt8)) :∃ qs,wayO Id' ([⟨.bx [.obj 2],true⟩,⟨.bx [.obj 3],true⟩,⟨.us (.ext (.tab (.wq 37 Q))),true⟩,⟨.us (.ext (.tab (.wq 39 Q))),true⟩]:Mem Td).length [⟨.bx [.obj 2],true⟩,⟨.bx [.obj 3],true⟩,⟨.us (.ext (.tab (.wq 37 Q))),true⟩,⟨.us (.ext (.tab (.wq 39 Q))),true⟩] (svV (.bool true)) ((runFn (⟨Try.prog,[(18,ctrF Id' C_natN hardD)],[],dkHo,Id'.one,60⟩:Sy Td) [(2,(lpG Id' 66 (hdC (loopsC (bodyOf Try.f31)) 0) 4 [(5,.c (.one (.v (.int .i64 ((0:Nat):Int)))))] [(0,.c (.one (.ptr 0 0))),(1,.c (.one (.ptr 1 0)))] [⟨.bx [.obj 2],true⟩,⟨.bx [.obj 3],true⟩,⟨.us (.ext (.tab (.wq 37 Q))),true⟩,⟨.us (.ext (.tab (.wq 39 Q))),true⟩] (.leaf (.exit 0) [] [⟨.bx [.obj 2],true⟩,⟨.bx [.obj 3],true⟩,⟨.us (.ext (.tab (.wq 37 Q))),true⟩,⟨.us (.ext (.tab (.wq 39 Q))),true⟩])))] Try.f31 [.one (.ptr 0 0),.one (.ptr 1 0)] [⟨.bx [.obj 2],true⟩,⟨.bx [.obj 3],true⟩,⟨.us (.ext (.tab (.wq 37 Q))),true⟩,⟨.us (.ext (.tab (.wq 39 Q))),true⟩]).al [])=some qs∧∀ q∈qs,q:=
 ⟨[(Th.ext (Dk.tab (TB.wq 37 Q)):Td)=Th.ext (Dk.tab (TB.wq 37 Q)),(Th.ext (Dk.tab (TB.wq 39 Q)):Td)=Th.ext (Dk.tab (TB.wq 39 Q)),Value.int IntKind.i64 (Int.ofNat 0)=Value.int IntKind.i64 (Int.ofNat (0:Nat)),(decide ((↑(TB.wq 39 Q).n:Int)<(0:Int))||decide ((↑(TB.wq 39 Q).n:Int)≥(↑Q.length:Int)))=true,(Th.ext (Dk.tab (TB.wq 37 Q)):Td)=Th.ext (Dk.tab (TB.wq 37 Q)),(Th.ext (Dk.tab (TB.wq 39 Q)):Td)=Th.ext (Dk.tab (TB.wq 39 Q)),Value.bool true=Value.bool true],by kernel_rfl,(by refine mcons ?_ (mcons ?_ (mcons ?_ (mcons ?_ (mcons ?_ (mcons ?_ (mcons ?_ mnil))))))<;>first|rfl|trivial|(exact bad_end Q))⟩
def C_alk:Ctr Td:=fun us sub=>match us,sub with
 |[.one (.ptr 0 0),.one (.ptr 1 0)],[⟨.bx [.obj 2],true⟩,⟨.bx [.obj 3],true⟩,⟨.us (.ext (.tab (.wq 37 Q))),true⟩,⟨.us (.ext (.tab (.wq 39 Q2))),true⟩]=>some ([Q=Q2,∀ q∈Q,q.2.length≤1000000,Q.length≤1000],svV (.bool true),[⟨.bx [.obj 2],true⟩,⟨.bx [.obj 3],true⟩,⟨.us (.ext (.tab (.wq 37 Q))),true⟩,⟨.us (.ext (.tab (.wq 39 Q))),true⟩])
 |_,_=>none
set_option maxRecDepth 100000 in
theorem C_alk_ok:CtrOk Try.prog Id' 31 C_alk:=by
 intro us sub ps x sm h hp w e vs hM ha
 unfold C_alk at h
 split at h
 ·rename_i Q Q2
  simp only [Option.some.injEq,Prod.mk.injEq] at h
  obtain ⟨rfl,rfl,rfl⟩:=h
  have hE:Q=Q2:=hp _ (List.mem_cons_self ..)
  have hS:∀ q∈Q,q.2.length≤1000000:=hp _ (List.mem_cons_of_mem _ (List.mem_cons_self ..))
  have hL:Q.length≤1000:=hp _ (List.mem_cons_of_mem _ (List.mem_cons_of_mem _ (List.mem_cons_self ..)))
  subst hE
  exact ctr_way (I:=Id') (fun (W0:World) (G:Nat→Prop)=>SyOk.mk2 Try.mixed dkHo_ok (FnsR.cons (R_natN) (FnsR.nil)) EqsOk.nil) rfl Try.func31 (by kernel_rfl) (fun W0 G=>LpsOk.cons (by kernel_rfl) (alk_lp Q hS hL _ rfl) (LpsOk.nil _)) (cs:=[]) (by kernel_rfl) (alk_w0 Q ) w e vs hM ha
 ·cases h
theorem R_alk:RowOk Try.prog Id' hardD 31 (ctrF Id' C_alk hardD):=ctrF_ok Try.call31 C_alk_ok
end Go.Proofs.Ytdenmoiaiemokaa
set_option linter.unusedVariables false
set_option linter.unusedSimpArgs false
namespace Go.Proofs.Ytdenmoiaiemokaa
open Go.RowKit
set_option maxRecDepth 100000 in
theorem lv18_w0  :∃ qs,wayO Id' ([]:Mem Td).length [] (svV (.bool true)) ((runFn (⟨Try.prog,[(13,ctrF Id' C_nnew hardD),(16,ctrF Id' C_nsendO hardD),(20,ctrF Id' C_ntake hardD),(27,ctrF Id' C_nlen hardD)],[],dkHo,Id'.one,60⟩:Sy Td) [] Try.f32 [] []).al [false,true])=some qs∧∀ q∈qs,q:=
 ⟨[[UInt8.ofNat (Int.toNat (7:Int))].length≤(1000000:Nat),([]:List (Int×List UInt8)).length+(1:Nat)≤(100000:Nat),(En.mk (Ob.us (Th.own [7])) true:En Td)=En.mk (Ob.us (Th.own [7])) true,(0:Int)≤(7:Int)∧(7:Int)<(256:Int),false=false,(0:Int)≤(0:Int)∧Int.toNat (0:Int)<(sdQ [] (1:Int) [UInt8.ofNat (Int.toNat (7:Int))]).length,false=false,((sdQ [] (1:Int) [UInt8.ofNat (Int.toNat (7:Int))]).getD (Int.toNat (0:Int)) ((0:Int),[])).snd.length≤(1000000:Nat),(sdQ [] (1:Int) [UInt8.ofNat (Int.toNat (7:Int))]).length≤(1000:Nat),true=true,true=true,Value.bool true=Value.bool true],by kernel_rfl,(by refine mcons ?_ (mcons ?_ (mcons ?_ (mcons ?_ (mcons ?_ (mcons ?_ (mcons ?_ (mcons ?_ (mcons ?_ (mcons ?_ (mcons ?_ (mcons ?_ mnil)))))))))))<;>first|rfl|trivial|decide|(decide +kernel))⟩
def C_lv18:Ctr Td:=fun us sub=>match us,sub with
 |[],[]=>some ([],svV (.bool true),[])
 |_,_=>none
set_option maxRecDepth 100000 in
theorem C_lv18_ok:CtrOk Try.prog Id' 32 C_lv18:=by
 intro us sub ps x sm h hp w e vs hM ha
 unfold C_lv18 at h
 split at h
 ·skip
  simp only [Option.some.injEq,Prod.mk.injEq] at h
  obtain ⟨rfl,rfl,rfl⟩:=h
  exact ctr_way (I:=Id') (fun (W0:World) (G:Nat→Prop)=>SyOk.mk2 Try.mixed dkHo_ok (FnsR.cons (R_nnew) (FnsR.cons (R_nsendO) (FnsR.cons (R_ntake) (FnsR.cons (R_nlen) (FnsR.nil))))) EqsOk.nil) rfl Try.func32 (by kernel_rfl) (fun W0 G=>LpsOk.nil _) (cs:=[false,true]) (by kernel_rfl) (lv18_w0  ) w e vs hM ha
 ·cases h
theorem R_lv18:RowOk Try.prog Id' hardD 32 (ctrF Id' C_lv18 hardD):=ctrF_ok Try.call32 C_lv18_ok
end Go.Proofs.Ytdenmoiaiemokaa
