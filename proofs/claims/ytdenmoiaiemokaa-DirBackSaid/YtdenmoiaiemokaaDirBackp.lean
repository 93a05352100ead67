/- DirBack. -/
import Derived.Test.YtdenmoiaiemokaaW55p
import Derived.Test.YtdenmoiaiemokaaOpenp
set_option linter.unusedVariables false
set_option linter.unusedSimpArgs false
namespace Go.Proofs.Ytdenmoiaiemokaa
open Go.RowKit Go.ChangeShapes Go.WideShapes Go.ChangeAt
theorem Try.ownDirBack:ownKnob Try.prog.godebug=none:=by kernel_rfl
theorem Try.laidOutDirBack:laidOutB Try.prog=true:=by kernel_rfl
set_option maxRecDepth 100000 in
set_option maxHeartbeats 1000000 in
theorem dirBack_lifted (os:Os) (started:os.Started) (H:Type) (enc:TypeId×Value→H):
  ReturnsInHanded {} Try.checked os 9 .any (Rows.dirBackSpec.pre6 enc Try.prog Try.f9 Rows.dirBackRow.domain false) (Rows.dirBackSpec.post enc Try.prog Try.f9 false true false false):=by
 refine returnsInHanded_of_change_sized (C:=Try.checked) Try.ownDirBack started (by kernel_rfl) Try.func9
  (ChangeSpec.witness6 (enc:=enc) (C:=Try.checked) false ⟨#[],#[.slice none 0 0,.slice none 0 0],[]⟩ 8 (by kernel_rfl) (by kernel_rfl) (by kernel_rfl) (by kernel_rfl)) ?_
 intro W base args ds gs before hval hW _ hsz _
 have hW':=hW
 obtain ⟨p,q,hA0,hV,rfl,hfz,hnd⟩:=hW
 have hA:DataW.TrodAll enc Try.prog W 0 (fun _=>true) true Try.f9.params.toList args.toList ds p:=hA0
 rw [Try.params9] at hA
 obtain ⟨v0,vs0,d0,ds0,p0,q0,hargs,rfl,rfl,h0,r0⟩:=trodAll_cons hA
 obtain ⟨v1,vs1,d1,ds1,p1,q1,rfl,rfl,rfl,h1,r1⟩:=trodAll_cons r0
 obtain ⟨rfl,rfl,rfl⟩:=trodAll_nil r1
 obtain rfl:args=#[v0,v1]:=by cases args;simp_all
 obtain ⟨rfl,rfl⟩:=trodVars_none hV
 obtain ⟨fuel0,h0⟩:=h0
 obtain ⟨a0,len0,cap0,rfl⟩:=okWide_slice Try.underlying93 (hval 0 93 v0 rfl rfl)
 obtain ⟨l_v,l,l_e,l_h⟩:=read_ents h0
 simp [Value.cells] at l_e
 subst l_e
 obtain ⟨fuel1,h1⟩:=h1
 obtain ⟨a1,len1,cap1,rfl⟩:=okWide_slice Try.underlying95 (hval 1 95 v1 rfl rfl)
 obtain ⟨b_v,b,b_e,b_h,b_w⟩:=read_rowsBZ h1
 simp [Value.cells] at b_e
 subst b_e
 have b_z:∀ x∈b,x.length≤140737488355328:=fun x hx=>Nat.le_trans (b_w reachBytes (fun n hn=>of_decide_eq_true (List.all_eq_true.1 hsz n (DataW.weights_mem_each (P:=Try.prog) (j:=1) (t:=95) (by rw [Try.params9];rfl) rfl n hn))) x hx) (by decide)
 refine (dirBack_calls _ l _ b b_z W l_h b_h).mono fun e W' ⟨he,hb⟩=>?_
 exact ⟨_,he,law_post Try.laidOutDirBack hW' rfl hb rfl Try.underlying4 rfl (by
  rw [show Try.checked.prog=Try.prog from rfl,Try.params9]
  intro t ht
  simp at ht
  rcases ht with rfl|rfl
  all_goals exact ⟨by kernel_rfl,of_decide_eq_true (by kernel_rfl)⟩)⟩
theorem dirBack_holds:Rows.DirBackSaid:=
 OpenClaim.holds_of_wide 9 Try.f9 rfl rfl rfl rfl rfl rfl rfl ⟨rfl,rfl,rfl,rfl,rfl⟩ rfl rfl rfl rfl rfl (by kernel_rfl) Try.func9 (by kernel_rfl)
  (of_decide_eq_true (by kernel_rfl)) (by unfold Func.isWrapper;first|(rw [if_pos (by decide +kernel)];kernel_rfl)|(rw [if_neg (by decide +kernel)];exact ⟨rfl,rfl⟩))
  (fun os started H enc _=>dirBack_lifted os started H enc)
end Go.Proofs.Ytdenmoiaiemokaa
