/- DirTurns. -/
import Derived.Test.YtdenmoiaiemokaaWRwp
import Derived.Test.YtdenmoiaiemokaaOpenp
set_option linter.unusedVariables false
set_option linter.unusedSimpArgs false
namespace Go.Proofs.Ytdenmoiaiemokaa
open Go.RowKit Go.ChangeShapes Go.WideShapes Go.ChangeAt
theorem Try.ownDirTurns:ownKnob Try.prog.godebug=none:=by kernel_rfl
theorem Try.laidOutDirTurns:laidOutB Try.prog=true:=by kernel_rfl
set_option maxRecDepth 100000 in
set_option maxHeartbeats 1000000 in
theorem dirTurns_lifted (os:Os) (started:os.Started) (H:Type) (enc:TypeId×Value→H):
  ReturnsInHanded {} Try.checked os 10 .any (Rows.dirTurnsSpec.pre6 enc Try.prog Try.f10 Rows.dirTurnsRow.domain false) (Rows.dirTurnsSpec.post enc Try.prog Try.f10 false true false false):=by
 refine returnsInHanded_of_change_sized (C:=Try.checked) Try.ownDirTurns started (by kernel_rfl) Try.func10
  (ChangeSpec.witness6 (enc:=enc) (C:=Try.checked) false ⟨#[],#[.slice none 0 0,.agg #[.string ⟨#[]⟩,.int .i64 0,.int .i64 0,.int .i64 0],.string ⟨#[]⟩],[]⟩ 8 (by kernel_rfl) (by kernel_rfl) (by kernel_rfl) (by kernel_rfl)) ?_
 intro W base args ds gs before hval hW _ _ _
 have hW':=hW
 obtain ⟨p,q,hA0,hV,rfl,hfz,hnd⟩:=hW
 have hA:DataW.TrodAll enc Try.prog W 0 (fun _=>true) true Try.f10.params.toList args.toList ds p:=hA0
 rw [Try.params10] at hA
 obtain ⟨v0,vs0,d0,ds0,p0,q0,hargs,rfl,rfl,h0,r0⟩:=trodAll_cons hA
 obtain ⟨v1,vs1,d1,ds1,p1,q1,rfl,rfl,rfl,h1,r1⟩:=trodAll_cons r0
 obtain ⟨v2,vs2,d2,ds2,p2,q2,rfl,rfl,rfl,h2,r2⟩:=trodAll_cons r1
 obtain ⟨rfl,rfl,rfl⟩:=trodAll_nil r2
 obtain rfl:args=#[v0,v1,v2]:=by cases args;simp_all
 obtain ⟨rfl,rfl⟩:=trodVars_none hV
 obtain ⟨fuel0,h0⟩:=h0
 obtain ⟨a0,len0,cap0,rfl⟩:=okWide_slice Try.underlying93 (hval 0 93 v0 rfl rfl)
 obtain ⟨l_v,l,l_e,l_h⟩:=read_ents h0
 simp [Value.cells] at l_e
 subst l_e
 obtain ⟨fuel1,h1⟩:=h1
 obtain ⟨e,rfl,e_h⟩:=read_entW (hval 1 109 v1 rfl rfl) h1
 obtain ⟨fuel2,h2⟩:=h2
 obtain ⟨s,rfl⟩:=okWide_string Try.underlying9 (hval 2 9 v2 rfl rfl)
 obtain ⟨s_,s_e,_,s_w⟩:=DataW.trod_string Try.underlying9 h2
 simp [Value.cells] at s_e
 subst s_e
 refine (dirTurns_calls _ l _ _ _ _ s W l_h).mono fun e W' ⟨he,hb⟩=>?_
 exact ⟨_,he,law_post Try.laidOutDirTurns hW' rfl hb rfl Try.underlying4 rfl (by
  rw [show Try.checked.prog=Try.prog from rfl,Try.params10]
  intro t ht
  simp at ht
  rcases ht with rfl|rfl|rfl
  all_goals exact ⟨by kernel_rfl,of_decide_eq_true (by kernel_rfl)⟩)⟩
theorem dirTurns_holds:Rows.DirTurnsSaid:=
 OpenClaim.holds_of_wide 10 Try.f10 rfl rfl rfl rfl rfl rfl rfl ⟨rfl,rfl,rfl,rfl,rfl⟩ rfl rfl rfl rfl rfl (by kernel_rfl) Try.func10 (by kernel_rfl)
  (of_decide_eq_true (by kernel_rfl)) (by unfold Func.isWrapper;first|(rw [if_pos (by decide +kernel)];kernel_rfl)|(rw [if_neg (by decide +kernel)];exact ⟨rfl,rfl⟩))
  (fun os started H enc _=>dirTurns_lifted os started H enc)
end Go.Proofs.Ytdenmoiaiemokaa
