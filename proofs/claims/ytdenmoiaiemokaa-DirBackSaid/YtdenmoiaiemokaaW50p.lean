/- W45 W46 W47 WRd W48 H14 H15 H16 H17 H18 W49 W50. -/
import Derived.Test.YtdenmoiaiemokaaW44p
import Derived.Test.YtdenmoiaiemokaaOpenp
import Derived.Test.YtdenmoiaiemokaaH13p
import Derived.Test.YtdenmoiaiemokaaF2p
set_option linter.unusedVariables false
namespace Go.Proofs.Ytdenmoiaiemokaa
open Go.RowKit
theorem slE_at (b:List UInt8) {k:Nat} (h:k≤5):slE b (k:Int)=⟨b,172 * k,0⟩:=by
 unfold slE
 rw [IntWalk.i64_in _ (by omega)]
 congr 1
 omega
def small (b:List UInt8):Prop:=∀ k,k<5→gq ⟨b,172 * k,0⟩≤16
theorem stE_s {b:List UInt8} (hb:b.length=128) (X:List Rw):∀ k,k≤5→(stE X (RS.new b) k).2=⟨b,172 * k,0⟩
 |0,_=>rfl
 |k+1,h=>by
  show gE (stE X (RS.new b) k).2=_
  rw [stE_s hb X k (by omega),gE_at (by omega)]
  congr 1
theorem gq_pos (s:RS):0≤gq s:=by
 unfold gq
 rw [show (5:Int)=((5:Nat):Int) from rfl,i64_num s 5 (by decide)]
 omega
theorem gN_small {s:RS} (h:gq s≤16):gN s=gq s:=by
 have:gN s=if (16:Int)<gq s then 16 else gq s:=rfl
 rw [this,if_neg (by omega)]
theorem nm_none {s:RS} (h:gq s≤16):((gNm s).toList==(⟨#[]⟩:ByteArray).toList)=!inE s:=by
 have hl:(gNm s).toList.length=(gq s).toNat:=by
  rw [byteArray_len]
  unfold gNm
  rw [gN_small h]
  show ((gL 16 (g4 s)).take (gq s).toNat).toArray.size=_
  rw [List.size_toArray,List.length_take,gL_len]
  omega
 have e0:(⟨#[]⟩:ByteArray).toList.length=0:=by rw [byteArray_len];rfl
 have hp:=gq_pos s
 by_cases hq:gq s=0
 ·rw [hq] at hl
  have h1:=List.eq_nil_of_length_eq_zero hl
  have h2:=List.eq_nil_of_length_eq_zero e0
  rw [h1,h2]
  unfold inE
  rw [hq];rfl
 ·have:inE s=true:=by
   unfold inE
   rw [Bool.and_eq_true,decide_eq_true_iff,decide_eq_true_iff];omega
  rw [this]
  cases hh:((gNm s).toList==(⟨#[]⟩:ByteArray).toList) with
  |false=>rfl
  |true=>
   have:=congrArg List.length (eq_of_beq hh)
   omega
theorem ent_eq {s:RS} (h:gq s≤16):entG s=entH s:=by
 unfold entG entH gNm
 rw [gN_small h,List.drop_zero,Nat.sub_zero]
theorem stE_stH {b:List UInt8} (hb:b.length=128) (hs:small b) (X:List Rw):∀ k,k≤5→(stE X (RS.new b) k).1=stH b X k
 |0,_=>rfl
 |k+1,h=>by
  have ih:=stE_stH hb hs X k (by omega)
  have h16:=hs k (by omega)
  unfold stE stH
  rw [stE_s hb X k (by omega),ih,slE_at b (by omega),nm_none h16,ent_eq h16]
  cases inE ⟨b,172 * k,0⟩<;>rfl
def Good (L:List (List UInt8)):Prop:=∀ l∈L,l.length=128∧small l
theorem sto_str {L:List (List UInt8)} (h:Good L):∀ k,k≤L.length→stO L k=stR L k
 |0,_=>rfl
 |k+1,hk=>by
  obtain ⟨h1,h2⟩:=h (L.getD k []) (by rw [List.getD_eq_getElem?_getD,List.getElem?_eq_getElem (show k<L.length by omega)];exact List.getElem_mem _)
  show (stE (stO L k) (RS.new (L.getD k [])) 5).1=stH (L.getD k []) (stR L k) 5
  rw [stE_stH h1 h2 _ 5 (Nat.le_refl _),sto_str h k (by omega)]
theorem small_blk {Y:List Rw} (hl:Y.length≤5) (hr:∀ r∈Y,isR r=true):(blkD Y).length=128∧small (blkD Y):=by
 refine ⟨blkD_len hl,fun k hk=>?_⟩
 rcases Nat.lt_or_ge k Y.length with h|h
 ·exact (slot_in hl hr h).2.2.2.2
 ·exact (slot_out hl h hk).2.2
theorem okP_right {R:List Rw} (h:okP R=true):∀ r∈R,isR r=true:=fun r hr=>by
 have h2:=(Bool.and_eq_true_iff.1 h).2
 obtain ⟨j,hj,rfl⟩:=List.getElem_of_mem hr
 have:=allI_iff.1 h2 (j:Int) (by omega) (by simpa using hj)
 unfold isI at this
 rw [Int.toNat_natCast,List.getD_eq_getElem?_getD,List.getElem?_eq_getElem hj] at this
 exact this
theorem blksD_good {R:List Rw} (h:∀ r∈R,isR r=true):∀ k,Good (blksD R k)
 |0=>fun l hl=>by cases hl
 |k+1=>fun l hl=>by
  have hl:l∈blksD R k++[blkD ((R.drop (5 * k)).take 5)]:=hl
  rcases List.mem_append.1 hl with h'|h'
  ·exact blksD_good h k l h'
  ·rw [List.mem_singleton] at h'
   subst h'
   exact small_blk (List.length_take_le ..) fun r hr=>h r (List.mem_of_mem_drop (List.mem_of_mem_take hr))
theorem rbB_good (R:List Rw):Good (rbB R):=by
 unfold rbB
 rw [← okP_is]
 cases h:okP R with
 |false=>exact fun l hl=>by cases hl
 |true=>
  rw [Bool.true_and]
  cases decide ((R.length:Int)>24) with
  |true=>exact fun l hl=>by cases hl
  |false=>exact blksD_good (okP_right h) _
theorem stH_blk {Y:List Rw} (hl:Y.length≤5) (hr:∀ r∈Y,isR r=true) (X:List Rw):∀ j,j≤5→stH (blkD Y) X j=X++(Y.take j).map nrm4
 |0,_=>by simp [stH]
 |j+1,h=>by
  have ih:=stH_blk hl hr X j (by omega)
  unfold stH
  rw [slE_at _ (by omega),ih]
  rcases Nat.lt_or_ge j Y.length with hj|hj
  ·obtain ⟨h1,_,h3,_⟩:=slot_in hl hr hj
   rw [h3,h1,cond_true,List.append_assoc,List.take_add_one,List.map_append]
   congr 2
   rw [List.getD_eq_getElem?_getD,List.getElem?_eq_getElem hj];rfl
  ·obtain ⟨h1,_⟩:=slot_out hl hj (by omega)
   rw [h1,cond_false,List.take_of_length_le hj,List.take_of_length_le (by omega)]
theorem stR_blks {R:List Rw} (hr:∀ r∈R,isR r=true):∀ n k,k≤n→stR (blksD R n) k=(R.take (5 * k)).map nrm4
 |n,0,_=>rfl
 |n,k+1,h=>by
  have ih:=stR_blks hr n k (by omega)
  have hat:∀ n,k<n→(blksD R n).getD k []=blkD ((R.drop (5 * k)).take 5):=by
   intro n
   induction n with
   |zero=>intro h;omega
   |succ n ihn=>
    intro hk
    have hln:∀ m,(blksD R m).length=m:=fun m=>by
     induction m with
     |zero=>rfl
     |succ m ihm=>show (blksD R m++[_]).length=_;rw [List.length_append,ihm];rfl
    show (blksD R n++[_]).getD k []=_
    rcases Nat.lt_or_ge k n with hh|hh
    ·rw [List.getD_eq_getElem?_getD,List.getElem?_append_left (by rw [hln];exact hh),←List.getD_eq_getElem?_getD]
     exact ihn hh
    ·have:k=n:=by omega
     subst this
     rw [List.getD_eq_getElem?_getD,List.getElem?_append_right (by rw [hln];exact Nat.le_refl _),hln,Nat.sub_self];rfl
  show stH ((blksD R n).getD k []) (stR (blksD R n) k) 5=_
  rw [ih,hat n (by omega),stH_blk (List.length_take_le ..) (fun r hr'=>hr r (List.mem_of_mem_drop (List.mem_of_mem_take hr'))) _ 5 (Nat.le_refl _),←List.map_append,List.take_take,Nat.min_self]
  congr 1
  rw [Nat.mul_succ,List.take_add]
theorem back {R:List Rw} (hE:dbE R=0) (hn:R.map nrm4=R):deOk (dbB R)=true∧deR (dbB R)=R:=by
 have hok:okP R=true∧decide ((R.length:Int)>24)=false:=by
  unfold dbE at hE
  cases h:okP R with
  |false=>rw [h] at hE;cases hE
  |true=>
   cases h2:decide ((R.length:Int)>24) with
   |false=>exact ⟨rfl,rfl⟩
   |true=>rw [h,h2] at hE;cases hE
 have hB:dbB R=blksD R (nbR R):=by
  rw [dbB_is]
  unfold rbB
  rw [← okP_is,hok.1,hok.2];rfl
 have hlen:(blksD R (nbR R)).length=nbR R:=by
  have:=blks_is (okP_right hok.1) (nbR R)
  rw [← this,blksP_len]
 have hs:stR (dbB R) (dbB R).length=R:=by
  rw [hB,hlen,stR_blks (okP_right hok.1) _ _ (Nat.le_refl _),List.take_of_length_le (by unfold nbR;omega),hn]
 have hg:Good (dbB R):=by rw [dbB_is];exact rbB_good R
 have hs':stO (dbB R) (dbB R).length=R:=by rw [sto_str hg _ (Nat.le_refl _),hs]
 have h1:deOk (dbB R)=true:=by
  unfold deOk
  rw [hs',hE]
  simp
 refine ⟨h1,?_⟩
 unfold deR
 rw [h1,hs'];rfl
theorem forth {L:List (List UInt8)} (h:deOk L=true):dbE (deR L)=0∧dbB (deR L)=L:=by
 have h':=h
 unfold deOk at h
 rw [Bool.and_eq_true,beq_iff_eq,decide_eq_true_iff] at h
 unfold deR
 rw [h']
 exact h
theorem fewK_nrm (R:List Rw):∀ k,(fewK R k).map nrm4=fewK R k
 |0=>rfl
 |k+1=>by
  show (fewK R k++[shR _]).map nrm4=fewK R k++[shR _]
  rw [List.map_append,fewK_nrm R k];rfl
theorem few_nrm (R:List Rw) (n:Int):(fewR R n).map nrm4=fewR R n:=fewK_nrm R _
theorem ba_refl (a:ByteArray):(a==a)=true:=by cases a with|mk d=>show (d==d)=true;simp
theorem same_refl (R:List Rw):sameR R R=true:=by
 unfold sameR
 rw [decide_eq_true rfl,Bool.true_and,allI_iff]
 intro i _ _
 unfold sameI sameE
 rw [ba_refl]
 simp
end Go.Proofs.Ytdenmoiaiemokaa
set_option linter.unusedVariables false
set_option linter.unusedSimpArgs false
namespace Go.Proofs.Ytdenmoiaiemokaa
open Go.RowKit
structure DbIs (R:List Rw) (L:List (List UInt8)) (e:Int):Prop where
 b:dbB R=L
 c:dbE R=e
def C_dblkN (L:List (List UInt8)) (e:Int):Ctr Td:=fun us sub=>match us,sub with
 |[.one (.obj 0)],[⟨.us (.ext (.vw [true,false,false,false] R)),false⟩]=>some ([R.length≤1000,DbIs R L e],.tup [.one (.obj 1),.one (.v (.int .i64 e))],[⟨.us (.ext (.vw [true,false,false,false] R)),false⟩,⟨.us (.ext (.tab (.bs L))),true⟩])
 |_,_=>none
set_option maxRecDepth 100000 in
theorem C_dblkN_ok (L:List (List UInt8)) (e:Int):CtrOk Try.prog Id' 58 (C_dblkN L e):=by
 intro us sub ps x sm h hp w e_ vs hM ha
 unfold C_dblkN at h
 split at h
 ·rename_i R
  simp only [Option.some.injEq,Prod.mk.injEq] at h
  obtain ⟨rfl,rfl,rfl⟩:=h
  have q:DbIs R L e:=hp _ (List.mem_cons_of_mem _ (List.mem_cons_self ..))
  obtain ⟨rfl,rfl⟩:=q
  exact C_dblocks_ok  _ _ _ _ _ rfl (fun q hq=>(by
   simp only [List.mem_cons,List.not_mem_nil,or_false] at hq
   subst hq;exact hp _ (List.mem_cons_self ..))) w e_ vs hM ha
 ·cases h
theorem R_dblkN (L:List (List UInt8)) (e:Int):RowOk Try.prog Id' hardD 58 (ctrF Id' (C_dblkN L e) hardD):=ctrF_ok Try.call58 (C_dblkN_ok L e)
structure DeIs (L:List (List UInt8)) (X:List Rw) (e:Int):Prop where
 b:deR L=X
 c:deE L=e
def C_dentN (L:List (List UInt8)) (X:List Rw) (e:Int):Ctr Td:=fun us sub=>match us,sub with
 |[.one (.obj 0)],[⟨.us (.ext (.shr sz n el)),false⟩]=>some ([sz=1∧n=L.length∧el=tbE L,L.length≤100∧∀ l∈L,l.length≤140737488355328,DeIs L X e],.tup [.one (.obj 1),.one (.v (.int .i64 e))],[⟨.us (.ext (.shr sz n el)),false⟩,⟨.us (.ext (.vw [true,false,false,false] X)),false⟩])
 |_,_=>none
set_option maxRecDepth 100000 in
theorem C_dentN_ok (L:List (List UInt8)) (X:List Rw) (e:Int):CtrOk Try.prog Id' 61 (C_dentN L X e):=by
 intro us sub ps x sm h hp w e_ vs hM ha
 unfold C_dentN at h
 split at h
 ·rename_i sz n el
  simp only [Option.some.injEq,Prod.mk.injEq] at h
  obtain ⟨rfl,rfl,rfl⟩:=h
  have q:DeIs L X e:=hp _ (List.mem_cons_of_mem _ (List.mem_cons_of_mem _ (List.mem_cons_self ..)))
  obtain ⟨rfl,rfl⟩:=q
  exact C_dents_ok L _ _ _ _ _ rfl (fun q hq=>(by
   simp only [List.mem_cons,List.not_mem_nil,or_false] at hq
   rcases hq with rfl|rfl<;>first|exact hp _ (List.mem_cons_self ..)|exact hp _ (List.mem_cons_of_mem _ (List.mem_cons_self ..)))) w e_ vs hM ha
 ·cases h
theorem R_dentN (L:List (List UInt8)) (X:List Rw) (e:Int):RowOk Try.prog Id' hardD 61 (ctrF Id' (C_dentN L X e) hardD):=ctrF_ok Try.call61 (C_dentN_ok L X e)
structure FewIs (R:List Rw) (n:Int) (Y:List Rw):Prop where
 b:fewR R n=Y
def C_fewN (Y:List Rw):Ctr Td:=fun us sub=>match us,sub with
 |[.one (.obj 0),.one (.v (.int .i64 n))],[⟨.us (.ext (.vw [true,false,false,false] R)),false⟩]=>some ([0≤n∧n≤1000,FewIs R n Y],.c (.one (.obj 1)),[⟨.us (.ext (.vw [true,false,false,false] R)),false⟩,⟨.us (.ext (.flat (.rw 109 [true,false,false,false] Y))),true⟩])
 |_,_=>none
set_option maxRecDepth 100000 in
theorem C_fewN_ok (Y:List Rw):CtrOk Try.prog Id' 57 (C_fewN Y):=by
 intro us sub ps x sm h hp w e_ vs hM ha
 unfold C_fewN at h
 split at h
 ·rename_i n R
  simp only [Option.some.injEq,Prod.mk.injEq] at h
  obtain ⟨rfl,rfl,rfl⟩:=h
  have q:FewIs R n Y:=hp _ (List.mem_cons_of_mem _ (List.mem_cons_self ..))
  obtain ⟨rfl⟩:=q
  exact C_few_ok  _ _ _ _ _ rfl (fun q hq=>(by
   simp only [List.mem_cons,List.not_mem_nil,or_false] at hq
   subst hq;exact hp _ (List.mem_cons_self ..))) w e_ vs hM ha
 ·cases h
theorem R_fewN (Y:List Rw):RowOk Try.prog Id' hardD 57 (ctrF Id' (C_fewN Y) hardD):=ctrF_ok Try.call57 (C_fewN_ok Y)
end Go.Proofs.Ytdenmoiaiemokaa
set_option linter.unusedVariables false
set_option linter.unusedSimpArgs false
namespace Go.Proofs.Ytdenmoiaiemokaa
open Go.RowKit
def lvR:List Rw:=[⟨[2,1,2],[⟨#[97]⟩]⟩]
set_option maxRecDepth 100000 in
theorem lvs_w0 (L:List (List UInt8)) (X:List Rw) (h0:L.length≤100∧∀ l∈L,l.length≤140737488355328) (h1:DbIs lvR L 0) (h2:DeIs L X 0) (h3:((0:Int)==(0:Int)&&(0:Int)==(0:Int)&&(L.length:Int)==(1:Int))=true) (h4:sameR lvR X=true):∃ qs,wayO Id' ([]:Mem Td).length [] (svV (.bool true)) ((runFn (⟨Try.prog,[(58,ctrF Id' (C_dblkN L 0) hardD),(61,ctrF Id' (C_dentN L X 0) hardD),(63,ctrF Id' C_rsame hardD)],[],dkHo,Id'.one,60⟩:Sy Td) [(100002,mapG (modAt wkE 0) (⟨Try.prog,[(58,ctrF Id' (C_dblkN L 0) hardD)],[],dkHo,Id'.one,60⟩:Sy Td) 35 (regO 2 (bodyOf Try.f60)) (drwR 2 (bodyOf Try.f60))),(100003,mapG (modAt wkE 1) (⟨Try.prog,[(61,ctrF Id' (C_dentN L X 0) hardD)],[],dkHo,Id'.one,60⟩:Sy Td) 35 (regO 3 (bodyOf Try.f60)) (drwR 3 (bodyOf Try.f60)))] Try.f60 [] []).al [true])=some qs∧∀ q∈qs,q:=
 ⟨[lvR.length≤(1000:Nat),DbIs lvR L (0:Int),(1:Nat)=(1:Nat)∧L.length=L.length∧tbE L=tbE L,L.length≤(100:Nat)∧∀ (l:List UInt8),l∈L→l.length≤(140737488355328:Nat),DeIs L X (0:Int),((0:Int)==(0:Int)&&(0:Int)==(0:Int)&&(↑L.length:Int)==(1:Int))=true,lvR.length≤(100000:Nat),((0:Int)==(0:Int)&&(0:Int)==(0:Int)&&(↑L.length:Int)==(1:Int))=true,Value.bool (sameR lvR X)=Value.bool true],by kernel_rfl,(by refine mcons ?_ (mcons ?_ (mcons ?_ (mcons ?_ (mcons ?_ (mcons ?_ (mcons ?_ (mcons ?_ (mcons ?_ mnil))))))))<;>first|exact h0|exact h1|exact h2|exact h3|(exact congrArg Value.bool h4)|(exact (by decide:(1:Nat)≤1000))|(exact (by decide:(1:Nat)≤100000))|exact h0|exact h1|exact h2|exact h3|exact h4|trivial|(exact ⟨rfl,rfl,rfl⟩)|(exact congrArg Value.bool h4)|(exact (by decide:(1:Nat)≤1000))|(exact (by decide:(1:Nat)≤100000)))⟩
theorem lvE:dbE lvR=0:=by decide +kernel
theorem lvN:lvR.map nrm4=lvR:=rfl
theorem lvL:(dbB lvR).length=1:=by decide +kernel
theorem deE_ok {L:List (List UInt8)} (h:deOk L=true):deE L=0:=by unfold deE;rw [h];rfl
theorem dbB_wid (R:List Rw):∀ l∈dbB R,l.length≤140737488355328:=fun l hl=>by
 rw [dbB_is] at hl
 have:=(rbB_good R l hl).1
 omega
def C_lives:Ctr Td:=fun us sub=>match us,sub with
 |[],[]=>some ([],svV (.bool true),[])
 |_,_=>none
set_option maxRecDepth 100000 in
theorem C_lives_ok:CtrOk Try.prog Id' 60 C_lives:=by
 intro us sub ps x sm h hp w e vs hM ha
 unfold C_lives at h
 split at h
 ·skip
  simp only [Option.some.injEq,Prod.mk.injEq] at h
  obtain ⟨rfl,rfl,rfl⟩:=h
  exact ctr_way (I:=Id') (fun (W0:World) (G:Nat→Prop)=>SyOk.mk2 Try.mixed dkHo_ok (FnsR.cons ((R_dblkN (dbB lvR) 0)) (FnsR.cons ((R_dentN (dbB lvR) lvR 0)) (FnsR.cons (R_rsame) (FnsR.nil)))) EqsOk.nil) rfl Try.func60 (by kernel_rfl) (fun W0 G=>LpsOk.cons (by kernel_rfl) (mapG_sound (id:=2) ((fun (W0:World) (G:Nat→Prop)=>SyOk.mk2 Try.mixed dkHo_ok (FnsR.cons ((R_dblkN (dbB lvR) 0)) (FnsR.nil)) EqsOk.nil) W0 G) rfl (fun w e mem h=>wk_ok (W0:=W0) (G:=G) 0 w e mem h)) (LpsOk.cons (by kernel_rfl) (mapG_sound (id:=3) ((fun (W0:World) (G:Nat→Prop)=>SyOk.mk2 Try.mixed dkHo_ok (FnsR.cons ((R_dentN (dbB lvR) lvR 0)) (FnsR.nil)) EqsOk.nil) W0 G) rfl (fun w e mem h=>wk_ok (W0:=W0) (G:=G) 1 w e mem h)) (LpsOk.nil _))) (cs:=[true]) (by kernel_rfl) (lvs_w0 (dbB lvR) lvR ⟨by rw [lvL];decide,dbB_wid lvR⟩ ⟨rfl,lvE⟩ ⟨(back lvE lvN).2,deE_ok (back lvE lvN).1⟩ (by rw [lvL];rfl) (same_refl lvR)) w e vs hM ha
 ·cases h
theorem R_lives:RowOk Try.prog Id' hardD 60 (ctrF Id' C_lives hardD):=ctrF_ok Try.call60 C_lives_ok
end Go.Proofs.Ytdenmoiaiemokaa
set_option linter.unusedVariables false
set_option linter.unusedSimpArgs false
namespace Go.Proofs.Ytdenmoiaiemokaa
open Go.RowKit Go.ChangeShapes Go.WideShapes Go.ChangeAt
theorem args_us {w:World} {e:Env} {mem:Mem Td} (h:MemOk w (FootOf Id' w e mem) Id' w e mem) (hro:∀ n∈mem,n.mu=false) {u:Value} {b:Td} (hb:Id'.holds b w u) (hlt:∀ k,Id'.foot b w u k→k<w.heap.size):MemOk w (FootOf Id' w (e++[u]) (mem++[⟨.us b,false⟩])) Id' w (e++[u]) (mem++[⟨.us b,false⟩]):=by
 have hget:∀ (i:Nat) (v:Value) (n:En Td),(e++[u])[i]? =some v→(mem++[⟨.us b,false⟩])[i]? =some n→(e[i]? =some v∧mem[i]? =some n)∨(v=u∧n=⟨.us b,false⟩):=fun i v n hv hn=>by
  have hl:=h.len
  rcases Nat.lt_or_ge i e.length with hi|hi
  ·rw [List.getElem?_append_left hi] at hv
   rw [List.getElem?_append_left (by omega)] at hn
   exact .inl ⟨hv,hn⟩
  ·rw [List.getElem?_append_right hi] at hv
   rw [List.getElem?_append_right (by omega)] at hn
   rw [hl] at hv
   cases hq:i - mem.length with
   |zero=>rw [hq] at hv hn;simp at hv hn;exact .inr ⟨hv.symm,hn.symm⟩
   |succ q=>rw [hq] at hv;simp at hv
 have hmu:∀ (i:Nat) (v:Value) (n:En Td),(e++[u])[i]? =some v→(mem++[⟨.us b,false⟩])[i]? =some n→n.mu=false:=fun i v n hv hn=>by
  rcases hget i v n hv hn with ⟨_,h2⟩|⟨_,rfl⟩
  ·exact hro n (List.mem_of_getElem? h2)
  ·rfl
 refine ⟨by simp [h.len],fun i v n hv hn=>?_,fun i v n hv hn k hk=>?_,fun i v n hv hn hm=>?_,fun i j v x n m hv hn hm=>?_,Mod.refl _ w,fun i v n hv hn k hk=>.inr (footO.2 ⟨i,v,n,hv,hn,hk⟩)⟩
 ·rcases hget i v n hv hn with ⟨h1,h2⟩|⟨rfl,rfl⟩
  ·exact (h.holds i v n h1 h2).mono (Grows.push e u)
  ·exact hb
 ·rcases hget i v n hv hn with ⟨h1,h2⟩|⟨rfl,rfl⟩
  ·exact h.lt i v n h1 h2 k hk
  ·exact hlt k hk
 ·rw [hmu i v n hv hn] at hm;cases hm
 ·rw [hmu i v n hv hn] at hm;cases hm
theorem rs_lt {w:World} {sz n:Nat} {u:Value} {vals:List Value} (h:Rs w sz u n vals) (hn:n≠0) (hs:0<sz) {k:Nat} (hk:u.ownBlock=some k):k<w.heap.size:=by
 obtain ⟨hl,ao,cap,rfl,h2,h3,h4,h5⟩:=h
 cases ao with
 |none=>cases hk
 |some a=>
  have hlt:0<vals.length:=by rw [hl];exact Nat.mul_pos (by omega) hs
  have:=h5 a rfl 0 _ (List.getElem?_eq_getElem hlt)
  have hb:=World.block_lt_of_cell? w _ this
  rw [add_block] at hb
  cases hk
  exact hb
theorem vw_lt {w:World} {u:Value} {ks:List Bool} {R:List Rw} (h:dkHolds (.vw ks R) w u):∀ k,Id'.foot (.ext (.vw ks R)) w u k→k<w.heap.size:=fun k ⟨h1,h2⟩=>rs_lt h.2 (fun e=>h1 (List.eq_nil_of_length_eq_zero e)) h.1 h2
theorem shr_ltR {w:World} {u:Value} {sz n:Nat} {el:Nat→List CD} (h:dkHolds (.shr sz n el) w u):∀ k,Id'.foot (.ext (.shr sz n el)) w u k→k<w.heap.size:=by
 obtain ⟨hs,vals,hR,hc⟩:=h
 intro k hk
 rcases hk with ⟨hn,hk⟩|⟨i,j,c,v,g1,g2,g3,g4,g5,g6⟩
 ·exact rs_lt hR hn hs hk
 ·have hi:i * sz+j<vals.length:=by rw [hR.1];exact slot_lt g1 g2
  have hv:=List.getElem?_eq_getElem hi
  have:v=vals[i * sz+j]:=cdAt_eq g5 (cd_at hR hv)
  subst this
  have hcd:=hc i j c _ g1 g2 g3 hv
  cases c with
  |v x=>exact g4.elim
  |bs b=>
   have hb:Bs w _ b:=hcd
   have hb':Rs w 1 _ b.length (b.map bv):=hb
   exact rs_lt hb' (fun e=>g4 (List.eq_nil_of_length_eq_zero e)) (by decide) g6
  |ns b=>
   have hb:Is w _ b:=hcd
   have hl:b.length≠0:=fun e=>g4 (List.eq_nil_of_length_eq_zero e)
   have hb':Rs w 1 _ b.length (b.map (Value.int .i64)):=hb
   exact rs_lt hb' hl (by decide) g6
theorem vw_of {w:World} {ks:List Bool} (hk:0<ks.length) {ao:Option Addr} {len cap:Nat} {R:List Rw} (hl:R.length=len) (h1:len≤cap) (h2:cap≤9223372036854775807) (h3:ao=none→cap=0)
  (hd:∀ i (r:Rw),R[i]? =some r→∃ b o,ao=some ⟨b,o,none⟩∧∀ j,j<ks.length→w.cell? ⟨b,o+i * ks.length+j,none⟩=(rwV ks r)[j]?):dkHolds (.vw ks R) w (.slice ao len cap):=by
 have hlen:∀ r∈R.map (rwV ks),r.length=ks.length:=fun r hr=>by obtain ⟨x,_,rfl⟩:=List.mem_map.1 hr;exact rwV_len ks x
 have hfl:((R.map (rwV ks)).flatten).length=R.length * ks.length:=by rw [flat_len hlen,List.length_map]
 refine ⟨hk,hfl,ao,cap,by rw [hl],by rw [hl];exact h1,h2,h3,fun a ha p u hu=>?_⟩
 have hp:p<R.length * ks.length:=by rw [← hfl];exact (List.getElem?_eq_some_iff.1 hu).1
 have hi:p / ks.length<R.length:=Nat.div_lt_of_lt_mul (by rw [Nat.mul_comm];exact hp)
 have hj:p % ks.length<ks.length:=Nat.mod_lt _ hk
 have hpe:p / ks.length * ks.length+p % ks.length=p:=by rw [Nat.mul_comm];exact Nat.div_add_mod p ks.length
 obtain ⟨b,o,e,hc⟩:=hd _ _ (List.getElem?_eq_getElem hi)
 subst ha
 cases e
 have hv:(rwV ks R[p / ks.length])[p % ks.length]? =some u:=by
  have h5:=flat_get hlen (i:=p / ks.length) (j:=p % ks.length) (r:=rwV ks R[p / ks.length]) (v:=(rwV ks R[p / ks.length])[p % ks.length]'(by rw [rwV_len];exact hj)) (by rw [List.getElem?_map,List.getElem?_eq_getElem hi];rfl) (List.getElem?_eq_getElem _)
  rw [hpe,hu] at h5
  rw [h5]
  exact List.getElem?_eq_getElem _
 rw [Addr.add_mid]
 have:=hc _ hj
 rw [Nat.add_assoc,hpe,hv] at this
 exact this
section
variable {H:Type} {enc:TypeId×Value→H} {W:World}
theorem read_fileR {cs:List Value} {fuel:Nat} {x:DataW H×List MemPlace} (hl:cs.length=2) (h:DataW.trod enc Try.prog W 0 (fun _=>true) true fuel 57 cs=some x):
  ∃ a b:Int,cs=[.int .i64 a,.int .i64 b]:=by
 obtain ⟨c0,c1,rfl⟩:∃ a b,cs=[a,b]:=by
  match cs,hl with
  |[a,b],_=>exact ⟨a,b,rfl⟩
 obtain ⟨xs,n,_,_,_,hx,hf⟩:=DataW.trod_struct Try.underlying57 h
 have hx4:xs.length=2:=hx
 have f0:=hf 0 _ rfl
 have f1:=hf 1 _ rfl
 rw [List.getElem?_eq_getElem (by omega)] at f0 f1
 obtain ⟨k,e0,_,_⟩:=DataW.trod_int Try.underlying3 f0
 obtain ⟨t,e1,_,_⟩:=DataW.trod_int Try.underlying3 f1
 have ci:Try.prog.cellsOf 3=1:=by kernel_rfl
 have g0:c0=.int .i64 k:=by simpa [ci] using e0
 have g1:c1=.int .i64 t:=by simpa [ci] using e1
 exact ⟨k,t,by rw [g0,g1]⟩
theorem read_entR {cs:List Value} {fuel:Nat} {x:DataW H×List MemPlace} (hl:cs.length=4) (h:DataW.trod enc Try.prog W 0 (fun _=>true) true fuel 109 cs=some x):
  ∃ d:Rw,cs=rwV [true,false,false,false] d∧(d.ss.getD 0 ⟨#[]⟩).size≤9223372036854775807:=by
 obtain ⟨c0,c1,c2,c3,rfl⟩:∃ a b c e,cs=[a,b,c,e]:=by
  match cs,hl with
  |[a,b,c,e],_=>exact ⟨a,b,c,e,rfl⟩
 obtain ⟨xs,n,_,_,_,hx,hf⟩:=DataW.trod_struct Try.underlying109 h
 have hx4:xs.length=3:=hx
 have f0:=hf 0 _ rfl
 have f1:=hf 1 _ rfl
 have f2:=hf 2 _ rfl
 rw [List.getElem?_eq_getElem (by omega)] at f0 f1 f2
 have ci:Try.prog.cellsOf 3=1:=by kernel_rfl
 have cf:Try.prog.cellsOf 57=2:=by kernel_rfl
 have cz:Try.prog.cellsOf 9=1:=by kernel_rfl
 obtain ⟨s,e0,_,w0⟩:=DataW.trod_string Try.underlying9 f0
 obtain ⟨a,b,e1⟩:=read_fileR (by simp [cf]) f1
 obtain ⟨k,e2,_,_⟩:=DataW.trod_int Try.underlying3 f2
 have g0:c0=.string s:=by simpa [cz] using e0
 have g1:c1=.int .i64 a∧c2=.int .i64 b:=by simpa [cf] using e1
 have g2:c3=.int .i64 k:=by simpa [ci] using e2
 exact ⟨⟨[a,b,k],[s]⟩,by rw [g0,g1.1,g1.2,g2];rfl,by simpa [maxLen] using w0⟩
def EntsIs (w:World) (u:Value) (R:List Rw):Prop:=dkHolds (.vw [true,false,false,false] R) w u
theorem read_ents {cs:List Value} {fuel:Nat} {x:DataW H×List MemPlace} (h:DataW.trod enc Try.prog W 0 (fun _=>true) true fuel 93 cs=some x):∃ v l,cs=[v]∧EntsIs W v l:=by
 obtain ⟨ao,len,cap,rfl,h1,h2,h3,h4⟩:=read_slice (c:=4) Try.underlying93 (by kernel_rfl) (by decide) h
 obtain ⟨ds,hl,hd⟩:=list_of_lt (p:=fun i (d:Rw)=>∃ b o,ao=some ⟨b,o,none⟩∧∀ j,j<4→W.cell? ⟨b,o+i * 4+j,none⟩=(rwV [true,false,false,false] d)[j]?) len fun i hi=>by
  obtain ⟨b,o,cs',f,y,e1,e2,e3,e4⟩:=h4 i hi
  obtain ⟨d,rfl,_⟩:=read_entR e2 e4
  exact ⟨d,b,o,e1,e3⟩
 exact ⟨_,ds,rfl,vw_of (by decide) hl h1 h2 h3 fun i r hr=>hd i r hr⟩
def RowsIs (w:World) (u:Value) (L:List (List UInt8)):Prop:=dkHolds (.shr 1 L.length (tbE L)) w u
end
end Go.Proofs.Ytdenmoiaiemokaa
set_option linter.unusedVariables false
set_option linter.unusedSimpArgs false
namespace Go.Proofs.Ytdenmoiaiemokaa
open Go.RowKit
theorem fewR_len (R:List Rw) (n:Int):(fewR R n).length≤n.toNat:=by unfold fewR;rw [fewK_len];omega
end Go.Proofs.Ytdenmoiaiemokaa
set_option linter.unusedVariables false
set_option linter.unusedSimpArgs false
namespace Go.Proofs.Ytdenmoiaiemokaa
open Go.RowKit
end Go.Proofs.Ytdenmoiaiemokaa
set_option linter.unusedVariables false
set_option linter.unusedSimpArgs false
namespace Go.Proofs.Ytdenmoiaiemokaa
open Go.RowKit
end Go.Proofs.Ytdenmoiaiemokaa
set_option linter.unusedVariables false
set_option linter.unusedSimpArgs false
namespace Go.Proofs.Ytdenmoiaiemokaa
open Go.RowKit
end Go.Proofs.Ytdenmoiaiemokaa
set_option linter.unusedVariables false
set_option linter.unusedSimpArgs false
namespace Go.Proofs.Ytdenmoiaiemokaa
open Go.RowKit
end Go.Proofs.Ytdenmoiaiemokaa
set_option linter.unusedVariables false
set_option linter.unusedSimpArgs false
namespace Go.Proofs.Ytdenmoiaiemokaa
open Go.RowKit
end Go.Proofs.Ytdenmoiaiemokaa
set_option linter.unusedVariables false
namespace Go.Proofs.Ytdenmoiaiemokaa
open Go.RowKit
end Go.Proofs.Ytdenmoiaiemokaa
set_option linter.unusedVariables false
namespace Go.Proofs.Ytdenmoiaiemokaa
open Go.RowKit
theorem shr_like {n:Nat} {el el':Nat→List CD} (h:∀ i,i<n→el i=el' i) {w:World} {u:Value} (hh:dkHolds (.shr 1 n el) w u):dkHolds (.shr 1 n el') w u:=by
 obtain ⟨h0,vals,hR,hc⟩:=hh
 exact ⟨h0,vals,hR,fun i j c v hi hj hcc hv=>hc i j c v hi hj (by rw [h i hi];exact hcc) hv⟩
theorem shr_foot {n:Nat} {el el':Nat→List CD} (h:∀ i,i<n→el i=el' i) {w:World} {u:Value} {k:Nat} (hk:dkFoot (.shr 1 n el) w u k):dkFoot (.shr 1 n el') w u k:=by
 rcases hk with hk|⟨i,j,c,v,g1,g2,g3,g4⟩
 ·exact .inl hk
 ·exact .inr ⟨i,j,c,v,g1,g2,by rw [← h i g1];exact g3,g4⟩
def shE (n:Nat) (el:Nat→List CD):En Td:=⟨.us (.ext (.shr 1 n el)),false⟩
theorem shE_like {n:Nat} {el el':Nat→List CD} (h:∀ i,i<n→el i=el' i) {W0:World} {G:Nat→Prop} {w:World} {e:Env} {m:Mem Td} (hM:MemOk W0 G Id' w e (shE n el::m)):MemOk W0 G Id' w e (shE n el'::m):=hM.like rfl fun i n' hn=>by
 cases i with
 |zero=>
  simp only [List.getElem?_cons_zero,Option.some.injEq] at hn
  subst hn
  exact ⟨shE n el,rfl,rfl,fun u hh=>shr_like h hh,fun u k hk=>shr_foot (fun i hi=>(h i hi).symm) hk,fun u k hk=>hk.elim⟩
 |succ i=>exact ⟨n',hn,rfl,fun u hh=>hh,fun u k hk=>hk,fun u k hk=>hk⟩
theorem shE_footOf {n:Nat} {el el':Nat→List CD} (h:∀ i,i<n→el i=el' i) (w:World) (e:Env):FootOf Id' w e [shE n el]=FootOf Id' w e [shE n el']:=by
 have key:∀ {el el':Nat→List CD},(∀ i,i<n→el i=el' i)→∀ k,ReadOf Id' w e [shE n el] k→ReadOf Id' w e [shE n el'] k:=fun h k ⟨i,u,m,h1,h2,h3⟩=>by
  cases i with
  |zero=>
   simp only [List.getElem?_cons_zero,Option.some.injEq] at h2
   subst h2
   exact ⟨0,u,_,h1,rfl,shr_foot h h3⟩
  |succ i=>simp at h2
 have own:∀ {el:Nat→List CD} k,¬ OwnOf Id' w e [shE n el] k:=fun k ⟨i,u,m,h1,h2,h3,_⟩=>by
  cases i with
  |zero=>simp only [List.getElem?_cons_zero,Option.some.injEq] at h2;subst h2;cases h3
  |succ i=>simp at h2
 funext k
 apply propext
 constructor
 ·rintro (⟨h1,h2⟩|⟨h1,h2⟩)
  ·exact absurd h2 (own _)
  ·exact .inr ⟨h1,fun h3=>h2 (key (fun i hi=>(h i hi).symm) _ h3)⟩
 ·rintro (⟨h1,h2⟩|⟨h1,h2⟩)
  ·exact absurd h2 (own _)
  ·exact .inr ⟨h1,fun h3=>h2 (key h _ h3)⟩
def C_dentF (L:List (List UInt8)) (X:List Rw) (e:Int):Ctr Td:=fun us sub=>match us,sub with
 |[.one (.obj 0)],[⟨.us (.ext (.shr sz n el)),false⟩]=>some ([sz=1∧n=L.length∧∀ i,i<n→el i=tbE L i,L.length≤100∧∀ l∈L,l.length≤140737488355328,DeIs L X e],.tup [.one (.obj 1),.one (.v (.int .i64 e))],[⟨.us (.ext (.shr sz n el)),false⟩,⟨.us (.ext (.vw [true,false,false,false] X)),false⟩])
 |_,_=>none
theorem C_dentF_ok (L:List (List UInt8)) (X:List Rw) (e:Int):CtrOk Try.prog Id' 61 (C_dentF L X e):=by
 intro us sub ps x sm h hp w e_ vs hM ha
 unfold C_dentF at h
 split at h
 ·rename_i sz n el
  simp only [Option.some.injEq,Prod.mk.injEq] at h
  obtain ⟨rfl,rfl,rfl⟩:=h
  obtain ⟨rfl,rfl,hel⟩:=hp _ (List.mem_cons_self ..)
  have q1:=hp _ (List.mem_cons_of_mem _ (List.mem_cons_self ..))
  have q2:=hp _ (List.mem_cons_of_mem _ (List.mem_cons_of_mem _ (List.mem_cons_self ..)))
  have hM':=(shE_like (m:=[]) hel hM).self
  have hF:=shE_footOf hel w e_
  refine (C_dentN_ok L X e [.one (.obj 0)] [shE L.length (tbE L)] _ _ _ rfl (fun q hq=>(by
   simp only [List.mem_cons,List.not_mem_nil,or_false] at hq
   rcases hq with rfl|rfl|rfl
   ·first|exact ⟨rfl,rfl,rfl⟩|simp
   ·exact q1
   ·exact q2)) w e_ vs hM' ha).mono fun y w' ⟨v,e',h1,h2,h3,h4⟩=>⟨v,e',h1,h2,h3,?_⟩
  have h5:=shE_like (m:=[⟨.us (.ext (.vw [true,false,false,false] X)),false⟩]) (fun i hi=>(hel i hi).symm) h4
  rw [← hF] at h5
  exact h5
 ·cases h
theorem R_dentF (L:List (List UInt8)) (X:List Rw) (e:Int):RowOk Try.prog Id' hardD 61 (ctrF Id' (C_dentF L X e) hardD):=ctrF_ok Try.call61 (C_dentF_ok L X e)
end Go.Proofs.Ytdenmoiaiemokaa
