/- RecallNobody. -/
import Derived.Test.YtdenmoiaiemokaaY31p
import Derived.Test.YtdenmoiaiemokaaOpenp
set_option linter.unusedVariables false
set_option linter.unusedSimpArgs false
namespace Go.Proofs.Ytdenmoiaiemokaa
open Go.RowKit Go.ChangeShapes Go.WideShapes Go.ChangeAt
theorem Try.ownRecallNobody:ownKnob Try.prog.godebug=none:=by kernel_rfl
theorem Try.laidOutRecallNobody:laidOutB Try.prog=true:=by kernel_rfl
section
variable {H:Type} {enc:TypeId×Value→H} {W:World}
theorem read_file2 {cs:List Value} {fuel:Nat} {x:DataW H×List MemPlace} (hl:cs.length=2) (h:DataW.trod enc Try.prog W 0 (fun _=>true) true fuel 57 cs=some x):
  ∃ a b:Int,cs=[.int .i64 a,.int .i64 b]:=by
 obtain ⟨c0,c1,rfl⟩:∃ a b,cs=[a,b]:=by
  match cs,hl with
  |[a,b],_=>exact ⟨a,b,rfl⟩
 obtain ⟨xs,n,_,_,_,hx,hf⟩:=DataW.trod_struct Try.underlying57 h
 have hx4:xs.length=2:=hx
 have f0:=hf 0 _ rfl
 have f1:=hf 1 _ rfl
 rw [List.getElem?_eq_getElem (by omega)] at f0 f1
 obtain ⟨k,e0,_,_⟩:=DataW.trod_int Try.underlying3 f0
 obtain ⟨t,e1,_,_⟩:=DataW.trod_int Try.underlying3 f1
 have ci:Try.prog.cellsOf 3=1:=by kernel_rfl
 have g0:c0=.int .i64 k:=by simpa [ci] using e0
 have g1:c1=.int .i64 t:=by simpa [ci] using e1
 exact ⟨k,t,by rw [g0,g1]⟩
set_option maxRecDepth 100000 in
theorem read_fileW {base:Nat} {v:Value} {fuel:Nat} {x:DataW H×List MemPlace} (hv:Value.okWide Try.prog W .any base 57 v) (h:DataW.trod enc Try.prog W 0 (fun _=>true) true fuel 57 v.cells.toList=some x):
  ∃ d:Int×Int,v=.agg #[.int .i64 d.1,.int .i64 d.2]∧True:=by
 obtain ⟨csA,rfl,hs⟩:=okWide_struct Try.underlying57 hv
 have h18:Try.prog.cellsOf 57=2:=by kernel_rfl
 obtain ⟨cs,rfl⟩:∃ cs:List Value,csA=cs.toArray:=⟨csA.toList,by simp⟩
 have hl:cs.length=2:=by rw [h18] at hs;simpa using hs
 replace h:DataW.trod enc Try.prog W 0 (fun _=>true) true fuel 57 cs=some x:=h
 obtain ⟨a,b,rfl⟩:=read_file2 hl h
 exact ⟨(a,b),rfl,trivial⟩
end
set_option maxRecDepth 100000 in
set_option maxHeartbeats 1000000 in
theorem recallNobody_lifted (os:Os) (started:os.Started) (H:Type) (enc:TypeId×Value→H):
  ReturnsInHanded {} Try.checked os 5 .any (Rows.recallNobodySpec.pre6 enc Try.prog Try.f5 Rows.recallNobodyRow.domain false) (Rows.recallNobodySpec.post enc Try.prog Try.f5 false true false false):=by
 refine returnsInHanded_of_change_sized (C:=Try.checked) Try.ownRecallNobody started (by kernel_rfl) Try.func5
  (ChangeSpec.witness6 (enc:=enc) (C:=Try.checked) false ⟨#[],#[.agg #[.int .i64 0,.int .i64 0],.int .i64 0],[]⟩ 8 (by kernel_rfl) (by kernel_rfl) (by kernel_rfl) (by kernel_rfl)) ?_
 intro W base args ds gs before hval hW _ _ _
 have hW':=hW
 obtain ⟨p,q,hA0,hV,rfl,hfz,hnd⟩:=hW
 have hA:DataW.TrodAll enc Try.prog W 0 (fun _=>true) true Try.f5.params.toList args.toList ds p:=hA0
 rw [Try.params5] at hA
 obtain ⟨v0,vs0,d0,ds0,p0,q0,hargs,rfl,rfl,h0,r0⟩:=trodAll_cons hA
 obtain ⟨v1,vs1,d1,ds1,p1,q1,rfl,rfl,rfl,h1,r1⟩:=trodAll_cons r0
 obtain ⟨rfl,rfl,rfl⟩:=trodAll_nil r1
 obtain rfl:args=#[v0,v1]:=by cases args;simp_all
 obtain ⟨rfl,rfl⟩:=trodVars_none hV
 obtain ⟨fuel0,h0⟩:=h0
 obtain ⟨f,rfl,f_h⟩:=read_fileW (hval 0 57 v0 rfl rfl) h0
 obtain ⟨fuel1,h1⟩:=h1
 obtain ⟨client,rfl⟩:=okWide_int Try.underlying3 (hval 1 3 v1 rfl rfl)
 obtain ⟨client_,client_e,_,client_w⟩:=DataW.trod_int Try.underlying3 h1
 simp [Value.cells] at client_e
 subst client_e
 refine (recallNobody_calls f client W f_h (wf_i64 client_w)).mono fun e W' ⟨he,hb⟩=>?_
 exact ⟨_,he,law_post Try.laidOutRecallNobody hW' rfl hb rfl Try.underlying4 rfl (by
  rw [show Try.checked.prog=Try.prog from rfl,Try.params5]
  intro t ht
  simp at ht
  rcases ht with rfl|rfl
  all_goals exact ⟨by kernel_rfl,of_decide_eq_true (by kernel_rfl)⟩)⟩
theorem recallNobody_holds:Rows.RecallNobodySaid:=
 OpenClaim.holds_of_wide 5 Try.f5 rfl rfl rfl rfl rfl rfl rfl ⟨rfl,rfl,rfl,rfl,rfl⟩ rfl rfl rfl rfl rfl (by kernel_rfl) Try.func5 (by kernel_rfl)
  (of_decide_eq_true (by kernel_rfl)) (by unfold Func.isWrapper;first|(rw [if_pos (by decide +kernel)];kernel_rfl)|(rw [if_neg (by decide +kernel)];exact ⟨rfl,rfl⟩))
  (fun os started H enc _=>recallNobody_lifted os started H enc)
end Go.Proofs.Ytdenmoiaiemokaa
