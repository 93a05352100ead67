/- WireLong. -/
import Derived.Test.YtiiekgcjilelpaaJ10p
import Derived.Test.YtiiekgcjilelpaaOpenp
set_option linter.unusedSimpArgs false
set_option linter.unusedVariables false
namespace Go.Proofs.Ytiiekgcjilelpaa
open Go.RowKit Go.ChangeShapes Go.WideShapes Go.ChangeAt
theorem Try.ownWireLong:ownKnob Try.prog.godebug=none:=by kernel_rfl
theorem Try.laidOutWireLong:laidOutB Try.prog=true:=by kernel_rfl
set_option maxRecDepth 100000 in
set_option maxHeartbeats 1000000 in
theorem wireLong_lifted (os:Os) (started:os.Started) (H:Type) (enc:TypeId×Value→H):
  ReturnsInHanded {} Try.checked os 10 .any (Rows.wireLongSpec.pre6 enc Try.prog Try.f10 Rows.wireLongRow.domain false) (Rows.wireLongSpec.post enc Try.prog Try.f10 false true false false):=by
 refine returnsInHanded_of_change_sized (C:=Try.checked) Try.ownWireLong started (by kernel_rfl) Try.func10
  (ChangeSpec.witness6 (enc:=enc) (C:=Try.checked) false ⟨#[],#[.int .i64 0],[]⟩ 8 (by kernel_rfl) (by kernel_rfl) (by kernel_rfl) (by kernel_rfl)) ?_
 intro W base args ds gs before hval hW _ _ _
 have hW':=hW
 obtain ⟨p,q,hA0,hV,rfl,hfz,hnd⟩:=hW
 have hA:DataW.TrodAll enc Try.prog W 0 (fun _=>true) true Try.f10.params.toList args.toList ds p:=hA0
 rw [Try.params10] at hA
 obtain ⟨v0,vs0,d0,ds0,p0,q0,hargs,rfl,rfl,h0,r0⟩:=trodAll_cons hA
 obtain ⟨rfl,rfl,rfl⟩:=trodAll_nil r0
 obtain rfl:args=#[v0]:=by cases args;simp_all
 obtain ⟨rfl,rfl⟩:=trodVars_none hV
 obtain ⟨fuel0,h0⟩:=h0
 obtain ⟨n,rfl⟩:=okWide_int Try.underlying3 (hval 0 3 v0 rfl rfl)
 obtain ⟨n_,n_e,_,n_w⟩:=DataW.trod_int Try.underlying3 h0
 simp [Value.cells] at n_e
 subst n_e
 refine (wireLong_calls n W (wf_i64 n_w)).mono fun e W' ⟨he,hb⟩=>?_
 exact ⟨_,he,law_post Try.laidOutWireLong hW' rfl hb rfl Try.underlying4 rfl (by
  rw [show Try.checked.prog=Try.prog from rfl,Try.params10]
  intro t ht
  simp at ht
  rcases ht with rfl
  all_goals exact ⟨by kernel_rfl,of_decide_eq_true (by kernel_rfl)⟩)⟩
theorem wireLong_holds:Rows.WireLongSaid:=
 OpenClaim.holds_of_wide 10 Try.f10 rfl rfl rfl rfl rfl rfl rfl ⟨rfl,rfl,rfl,rfl,rfl⟩ rfl rfl rfl rfl rfl (by kernel_rfl) Try.func10 (by kernel_rfl)
  (of_decide_eq_true (by kernel_rfl)) (by unfold Func.isWrapper;first|(rw [if_pos (by decide +kernel)];kernel_rfl)|(rw [if_neg (by decide +kernel)];exact ⟨rfl,rfl⟩))
  (fun os started H enc _=>wireLong_lifted os started H enc)
end Go.Proofs.Ytiiekgcjilelpaa
