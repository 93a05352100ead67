/- RecallNeeds. -/
import Derived.Test.YtdenmoiaiemokaaY48p
import Derived.Test.YtdenmoiaiemokaaOpenp
set_option linter.unusedVariables false
set_option linter.unusedSimpArgs false
namespace Go.Proofs.Ytdenmoiaiemokaa
open Go.RowKit Go.ChangeShapes Go.WideShapes Go.ChangeAt
theorem Try.ownRecallNeeds:ownKnob Try.prog.godebug=none:=by kernel_rfl
theorem Try.laidOutRecallNeeds:laidOutB Try.prog=true:=by kernel_rfl
section
variable {H:Type} {enc:TypeId×Value→H} {W:World}
theorem read_file2 {cs:List Value} {fuel:Nat} {x:DataW H×List MemPlace} (hl:cs.length=2) (h:DataW.trod enc Try.prog W 0 (fun _=>true) true fuel 57 cs=some x):
  ∃ a b:Int,cs=[.int .i64 a,.int .i64 b]:=by
 obtain ⟨c0,c1,rfl⟩:∃ a b,cs=[a,b]:=by
  match cs,hl with
  |[a,b],_=>exact ⟨a,b,rfl⟩
 obtain ⟨xs,n,_,_,_,hx,hf⟩:=DataW.trod_struct Try.underlying57 h
 have hx4:xs.length=2:=hx
 have f0:=hf 0 _ rfl
 have f1:=hf 1 _ rfl
 rw [List.getElem?_eq_getElem (by omega)] at f0 f1
 obtain ⟨k,e0,_,_⟩:=DataW.trod_int Try.underlying3 f0
 obtain ⟨t,e1,_,_⟩:=DataW.trod_int Try.underlying3 f1
 have ci:Try.prog.cellsOf 3=1:=by kernel_rfl
 have g0:c0=.int .i64 k:=by simpa [ci] using e0
 have g1:c1=.int .i64 t:=by simpa [ci] using e1
 exact ⟨k,t,by rw [g0,g1]⟩
set_option maxRecDepth 100000 in
theorem read_fileW {base:Nat} {v:Value} {fuel:Nat} {x:DataW H×List MemPlace} (hv:Value.okWide Try.prog W .any base 57 v) (h:DataW.trod enc Try.prog W 0 (fun _=>true) true fuel 57 v.cells.toList=some x):
  ∃ d:Int×Int,v=.agg #[.int .i64 d.1,.int .i64 d.2]∧True:=by
 obtain ⟨csA,rfl,hs⟩:=okWide_struct Try.underlying57 hv
 have h18:Try.prog.cellsOf 57=2:=by kernel_rfl
 obtain ⟨cs,rfl⟩:∃ cs:List Value,csA=cs.toArray:=⟨csA.toList,by simp⟩
 have hl:cs.length=2:=by rw [h18] at hs;simpa using hs
 replace h:DataW.trod enc Try.prog W 0 (fun _=>true) true fuel 57 cs=some x:=h
 obtain ⟨a,b,rfl⟩:=read_file2 hl h
 exact ⟨(a,b),rfl,trivial⟩
end
set_option maxRecDepth 100000 in
set_option maxHeartbeats 1000000 in
theorem recallNeeds_lifted (os:Os) (started:os.Started) (H:Type) (enc:TypeId×Value→H):
  ReturnsInHanded {} Try.checked os 4 .any (Rows.recallNeedsSpec.pre6 enc Try.prog Try.f4 Rows.recallNeedsRow.domain false) (Rows.recallNeedsSpec.post enc Try.prog Try.f4 false true false false):=by
 refine returnsInHanded_of_change_sized (C:=Try.checked) Try.ownRecallNeeds started (by kernel_rfl) Try.func4
  (ChangeSpec.witness6 (enc:=enc) (C:=Try.checked) false ⟨#[],#[.slice none 0 0,.agg #[.int .i64 0,.int .i64 0],.int .i64 0,.int .i64 0],[]⟩ 8 (by kernel_rfl) (by kernel_rfl) (by kernel_rfl) (by kernel_rfl)) ?_
 intro W base args ds gs before hval hW _ _ _
 have hW':=hW
 obtain ⟨p,q,hA0,hV,rfl,hfz,hnd⟩:=hW
 have hA:DataW.TrodAll enc Try.prog W 0 (fun _=>true) true Try.f4.params.toList args.toList ds p:=hA0
 rw [Try.params4] at hA
 obtain ⟨v0,vs0,d0,ds0,p0,q0,hargs,rfl,rfl,h0,r0⟩:=trodAll_cons hA
 obtain ⟨v1,vs1,d1,ds1,p1,q1,rfl,rfl,rfl,h1,r1⟩:=trodAll_cons r0
 obtain ⟨v2,vs2,d2,ds2,p2,q2,rfl,rfl,rfl,h2,r2⟩:=trodAll_cons r1
 obtain ⟨v3,vs3,d3,ds3,p3,q3,rfl,rfl,rfl,h3,r3⟩:=trodAll_cons r2
 obtain ⟨rfl,rfl,rfl⟩:=trodAll_nil r3
 obtain rfl:args=#[v0,v1,v2,v3]:=by cases args;simp_all
 obtain ⟨rfl,rfl⟩:=trodVars_none hV
 obtain ⟨fuel0,h0⟩:=h0
 obtain ⟨a0,len0,cap0,rfl⟩:=okWide_slice Try.underlying55 (hval 0 55 v0 rfl rfl)
 obtain ⟨l_v,l,l_e,l_h⟩:=read_rdos h0
 simp [Value.cells] at l_e
 subst l_e
 obtain ⟨fuel1,h1⟩:=h1
 obtain ⟨f,rfl,f_h⟩:=read_fileW (hval 1 57 v1 rfl rfl) h1
 obtain ⟨fuel2,h2⟩:=h2
 obtain ⟨client,rfl⟩:=okWide_int Try.underlying3 (hval 2 3 v2 rfl rfl)
 obtain ⟨client_,client_e,_,client_w⟩:=DataW.trod_int Try.underlying3 h2
 simp [Value.cells] at client_e
 subst client_e
 obtain ⟨fuel3,h3⟩:=h3
 obtain ⟨mode,rfl⟩:=okWide_int Try.underlying3 (hval 3 3 v3 rfl rfl)
 obtain ⟨mode_,mode_e,_,mode_w⟩:=DataW.trod_int Try.underlying3 h3
 simp [Value.cells] at mode_e
 subst mode_e
 refine (recallNeeds_calls _ l f client mode W l_h f_h (wf_i64 client_w) (wf_i64 mode_w)).mono fun e W' ⟨he,hb⟩=>?_
 exact ⟨_,he,law_post Try.laidOutRecallNeeds hW' rfl hb rfl Try.underlying4 rfl (by
  rw [show Try.checked.prog=Try.prog from rfl,Try.params4]
  intro t ht
  simp at ht
  rcases ht with rfl|rfl|rfl
  all_goals exact ⟨by kernel_rfl,of_decide_eq_true (by kernel_rfl)⟩)⟩
theorem recallNeeds_holds:Rows.RecallNeedsSaid:=
 OpenClaim.holds_of_wide 4 Try.f4 rfl rfl rfl rfl rfl rfl rfl ⟨rfl,rfl,rfl,rfl,rfl⟩ rfl rfl rfl rfl rfl (by kernel_rfl) Try.func4 (by kernel_rfl)
  (of_decide_eq_true (by kernel_rfl)) (by unfold Func.isWrapper;first|(rw [if_pos (by decide +kernel)];kernel_rfl)|(rw [if_neg (by decide +kernel)];exact ⟨rfl,rfl⟩))
  (fun os started H enc _=>recallNeeds_lifted os started H enc)
end Go.Proofs.Ytdenmoiaiemokaa
