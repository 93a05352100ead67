/- DiskNobody: the walk. -/
import Derived.Test.YtonomiljclemnaaH21

set_option linter.unusedVariables false
set_option linter.unusedSimpArgs false
namespace Go.Proofs.Ytonomiljclemnaa
open Go.RowKit

def orC (c d : Ctr Td) : Ctr Td := fun us sub => match c us sub with
  | some x => some x
  | none => d us sub
def orV (c d : CtrV Td) : CtrV Td := fun us sub => match c us sub with
  | some x => some x
  | none => d us sub
theorem orC_ok {f : FuncId} {c d : Ctr Td} (hc : CtrOk Try.prog Id' f c) (hd : CtrOk Try.prog Id' f d) : CtrOk Try.prog Id' f (orC c d) := by
  intro us sub ps x sm h
  unfold orC at h
  split at h
  · rename_i y hy
    cases h
    exact hc us sub _ _ _ hy
  · exact hd us sub _ _ _ h
theorem orV_ok {f : FuncId} {c d : CtrV Td} (hc : CtrVOk Try.prog Id' f c) (hd : CtrVOk Try.prog Id' f d) : CtrVOk Try.prog Id' f (orV c d) := by
  intro us sub ps x h
  unfold orV at h
  split at h
  · rename_i y hy
    cases h
    exact hc us sub _ _ hy
  · exact hd us sub _ _ h
set_option maxRecDepth 100000 in
theorem nobody_w0 (i : Int) (b : List UInt8) (h0 : b.length ≤ 9223372036854775807) : ∃ qs, wayV ((runFn (⟨Try.prog, [(F_rcut : Nat × Fn2 Td), (22, ctrF Id' C_lives hardD), (16, ctrV (orV C_crashN C_crashE) hardD), (17, ctrV (orV C_readN C_readE) hardD), (15, ctrV (orV C_writeN C_writeE) hardD), (11, ctrV (orV C_flushN C_flushE) hardD), (30, ctrV (orV C_fuseN C_fuseE) hardD), (21, ctrV (orV C_waitsN C_waitsE) hardD), (33, ctrV (orV C_sizeN C_sizeE) hardD), (20, ctrV (orV C_liveN C_liveE) hardD)], [], dkHo, Id'.one, 60⟩ : Sy Td) [] Try.f6 [.one (.v (.int .i64 i)), .one (.obj 0)] (roM [⟨.us (.byt b), false⟩])).al [false, false]) (fun u => u = .bool true) = some qs ∧ ∀ q ∈ qs, q :=
  ⟨[Value.bool true = Value.bool true, nat_lit 200 ≤ (9223372036854775807 : Nat), false = false, false = false], by kernel_rfl, (by refine mcons ?_ (mcons ?_ (mcons ?_ (mcons ?_ mnil))) <;> first | rfl | exact h0 | trivial | (show 200 ≤ 9223372036854775807; decide) | (exact ⟨by decide, by decide⟩))⟩
def C_nobody : CtrV Td := fun us sub => match us, sub with
  | [.one (.v (.int .i64 i)), .one (.obj 0)], [⟨.us (.byt b), false⟩] => some ([b.length ≤ 9223372036854775807], .bool true)
  | _, _ => none
set_option maxRecDepth 100000 in
theorem C_nobody_ok : CtrVOk Try.prog Id' 6 C_nobody := by
  intro us sub ps x h hp w e vs hM ha
  unfold C_nobody at h
  split at h
  · rename_i i b
    simp only [Option.some.injEq, Prod.mk.injEq] at h
    obtain ⟨rfl, rfl⟩ := h
    exact ctrv_way (I := Id') (fun (W0 : World) (G : Nat → Prop) => SyOk.mk2 Try.mixed dkHo_ok (FnsR.cons (F_rcut_ok (J := dkI) (hx := hardDk)) (FnsR.cons (R_lives) (FnsR.cons (ctrV_ok Try.call16 (orV_ok C_crashN_ok C_crashE_ok)) (FnsR.cons (ctrV_ok Try.call17 (orV_ok C_readN_ok C_readE_ok)) (FnsR.cons (ctrV_ok Try.call15 (orV_ok C_writeN_ok C_writeE_ok)) (FnsR.cons (ctrV_ok Try.call11 (orV_ok C_flushN_ok C_flushE_ok)) (FnsR.cons (ctrV_ok Try.call30 (orV_ok C_fuseN_ok C_fuseE_ok)) (FnsR.cons (ctrV_ok Try.call21 (orV_ok C_waitsN_ok C_waitsE_ok)) (FnsR.cons (ctrV_ok Try.call33 (orV_ok C_sizeN_ok C_sizeE_ok)) (FnsR.cons (ctrV_ok Try.call20 (orV_ok C_liveN_ok C_liveE_ok)) (FnsR.nil))))))))))) EqsOk.nil) rfl Try.func6 (by kernel_rfl) (fun _ _ => LpsOk.nil _) (cs := [false, false]) (by kernel_rfl) (nobody_w0 i b (hp _ (List.mem_cons_self ..))) w e vs hM ha
  · cases h
theorem R_nobody : RowOk Try.prog Id' hardD 6 (ctrV C_nobody hardD) := ctrV_ok Try.call6 C_nobody_ok

end Go.Proofs.Ytonomiljclemnaa
