/- RecallPlays. -/
import Derived.Test.YtdenmoiaiemokaaY59p
import Derived.Test.YtdenmoiaiemokaaOpenp
set_option linter.unusedSimpArgs false
set_option linter.unusedVariables false
namespace Go.Proofs.Ytdenmoiaiemokaa
open Go.RowKit Go.ChangeShapes Go.WideShapes Go.ChangeAt
theorem Try.ownRecallPlays:ownKnob Try.prog.godebug=none:=by kernel_rfl
theorem Try.laidOutRecallPlays:laidOutB Try.prog=true:=by kernel_rfl
set_option maxRecDepth 100000 in
set_option maxHeartbeats 1000000 in
theorem recallPlays_lifted (os:Os) (started:os.Started) (H:Type) (enc:TypeId×Value→H):
  ReturnsInHanded {} Try.checked os 6 .any (Rows.recallPlaysSpec.pre6 enc Try.prog Try.f6 Rows.recallPlaysRow.domain false) (Rows.recallPlaysSpec.post enc Try.prog Try.f6 false true false false):=by
 refine returnsInHanded_of_change_sized (C:=Try.checked) Try.ownRecallPlays started (by kernel_rfl) Try.func6
  (ChangeSpec.witness6 (enc:=enc) (C:=Try.checked) false ⟨#[],#[.slice none 0 0],[]⟩ 8 (by kernel_rfl) (by kernel_rfl) (by kernel_rfl) (by kernel_rfl)) ?_
 intro W base args ds gs before hval hW _ _ _
 have hW':=hW
 obtain ⟨p,q,hA0,hV,rfl,hfz,hnd⟩:=hW
 have hA:DataW.TrodAll enc Try.prog W 0 (fun _=>true) true Try.f6.params.toList args.toList ds p:=hA0
 rw [Try.params6] at hA
 obtain ⟨v0,vs0,d0,ds0,p0,q0,hargs,rfl,rfl,h0,r0⟩:=trodAll_cons hA
 obtain ⟨rfl,rfl,rfl⟩:=trodAll_nil r0
 obtain rfl:args=#[v0]:=by cases args;simp_all
 obtain ⟨rfl,rfl⟩:=trodVars_none hV
 obtain ⟨fuel0,h0⟩:=h0
 obtain ⟨a0,len0,cap0,rfl⟩:=okWide_slice Try.underlying55 (hval 0 55 v0 rfl rfl)
 obtain ⟨l_v,l,l_e,l_h⟩:=read_rcdo_l h0
 simp [Value.cells] at l_e
 subst l_e
 refine (recallPlays_calls _ l W l_h).mono fun e W' ⟨he,hb⟩=>?_
 exact ⟨_,he,law_post Try.laidOutRecallPlays hW' rfl hb rfl Try.underlying4 rfl (by
  rw [show Try.checked.prog=Try.prog from rfl,Try.params6]
  intro t ht
  simp at ht
  rcases ht with rfl
  all_goals exact ⟨by kernel_rfl,of_decide_eq_true (by kernel_rfl)⟩)⟩
theorem recallPlays_holds:Rows.RecallPlaysSaid:=
 OpenClaim.holds_of_wide 6 Try.f6 rfl rfl rfl rfl rfl rfl rfl ⟨rfl,rfl,rfl,rfl,rfl⟩ rfl rfl rfl rfl rfl (by kernel_rfl) Try.func6 (by kernel_rfl)
  (of_decide_eq_true (by kernel_rfl)) (by unfold Func.isWrapper;first|(rw [if_pos (by decide +kernel)];kernel_rfl)|(rw [if_neg (by decide +kernel)];exact ⟨rfl,rfl⟩))
  (fun os started H enc _=>recallPlays_lifted os started H enc)
end Go.Proofs.Ytdenmoiaiemokaa
