/- H16. -/
import Derived.Test.YtonomiljclemnaaH15p
set_option linter.unusedVariables false
set_option linter.unusedSimpArgs false
namespace Go.Proofs.Ytonomiljclemnaa
open Go.RowKit
set_option maxRecDepth 100000 in
theorem newG_w0 (n : Int) (h0 : (decide (n < 1) || decide (n > 4096)) = false) (h1 : (0 : Int) ≤ n ∧ n ≤ 100000) : ∃ qs, wayO Id' (([] : Mem Td) : Mem Td).length [⟨.bx [.obj 1, .obj 2, .v (.int .i64 0), .v (.bool false), .v (.bool false)], true⟩, ⟨.us (.ext (.flat (.secs (List.replicate n.toNat sec0)))), true⟩, ⟨.us (.ext (.flat (.pens []))), true⟩] (.tup [.one (.ptr 0 0), .one (.kI .i64 0)]) ((runFn (⟨Try.prog, [], [], dkHo, Id'.one, 60⟩ : Sy Td) [] Try.f23 [.one (.v (.int .i64 n))] ([] : Mem Td)).al [false]) = some qs ∧ ∀ q ∈ qs, q :=
  ⟨[(decide (n < (1 : Int)) || decide (n > (4096 : Int))) = false, n = n, (0 : Int) ≤ n ∧ n ≤ (100000 : Int), Value.int IntKind.i64 (Int.ofNat 0) = Value.int IntKind.i64 (Int.ofNat 0), Value.bool false = Value.bool false, Value.bool false = Value.bool false, Th.ext (Dk.flat (FL.secs (List.replicate n.toNat sec0))) = Th.ext (Dk.flat (FL.secs (List.replicate n.toNat sec0))), ∀ (w : World), Id'.holds (Th.ext (Dk.flat (FL.pens []))) w nilV ∧ ∀ (j : Nat), ¬Id'.foot (Th.ext (Dk.flat (FL.pens []))) w nilV j, Value.int IntKind.i64 (Int.ofNat 0) = Value.int IntKind.i64 (Int.ofNat 0)], by kernel_rfl, (by refine mcons ?_ (mcons ?_ (mcons ?_ (mcons ?_ (mcons ?_ (mcons ?_ (mcons ?_ (mcons ?_ (mcons ?_ mnil)))))))) <;> first | rfl | exact h0 | exact h1 | trivial | (exact nil_pens rfl))⟩
def C_newG : Ctr Td := fun us sub => match us, sub with
  | [.one (.v (.int .i64 n))], [] => some ([1 ≤ n ∧ n ≤ 4096], .tup [.one (.ptr 0 0), .one (.kI .i64 0)], [⟨.bx [.obj 1, .obj 2, .v (.int .i64 0), .v (.bool false), .v (.bool false)], true⟩, ⟨.us (.ext (.flat (.secs (List.replicate n.toNat sec0)))), true⟩, ⟨.us (.ext (.flat (.pens []))), true⟩])
  | _, _ => none
set_option maxRecDepth 100000 in
theorem C_newG_ok : CtrOk Try.prog Id' 23 C_newG := by
  intro us sub ps x sm h hp w e vs hM ha
  unfold C_newG at h
  split at h
  · rename_i n
    simp only [Option.some.injEq, Prod.mk.injEq] at h
    obtain ⟨rfl, rfl, rfl⟩ := h
    have h := hp _ (List.mem_cons_self ..)
    have h0 : (decide (n < 1) || decide (n > 4096)) = false := by rw [decide_eq_false (by omega), decide_eq_false (by omega)]; rfl
    have h1 : (0 : Int) ≤ n ∧ n ≤ 100000 := by omega
    exact ctr_way (I := Id') (fun (W0 : World) (G : Nat → Prop) => SyOk.mk2 Try.mixed dkHo_ok (FnsR.nil) EqsOk.nil) rfl Try.func23 (by kernel_rfl) (fun _ _ => LpsOk.nil _) (cs := [false]) (by kernel_rfl) (newG_w0 n h0 h1) w e vs hM ha
  · cases h
theorem R_newG : RowOk Try.prog Id' hardD 23 (ctrF Id' C_newG hardD) := ctrF_ok Try.call23 C_newG_ok
end Go.Proofs.Ytonomiljclemnaa
