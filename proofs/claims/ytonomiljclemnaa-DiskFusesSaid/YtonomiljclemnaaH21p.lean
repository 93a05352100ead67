/- H20 H21. -/
import Derived.Test.YtonomiljclemnaaH19p
set_option linter.unusedVariables false
set_option linter.unusedSimpArgs false
namespace Go.Proofs.Ytonomiljclemnaa
open Go.RowKit
set_option maxRecDepth 100000 in
theorem lives_w0   : ∃ qs, wayO Id' (([] : Mem Td) : Mem Td).length ([] : Mem Td) (svV (.bool true)) ((runFn (⟨Try.prog, [(23, ctrF Id' C_newG hardD), (14, ctrF Id' C_sectP hardD), (15, ctrF Id' C_write hardD), (17, ctrF Id' C_readG hardD)], [], dkHo, Id'.one, 60⟩ : Sy Td) [] Try.f22 [] ([] : Mem Td)).al [false]) = some qs ∧ ∀ q ∈ qs, q :=
  ⟨[(1 : Int) ≤ (2 : Int) ∧ (2 : Int) ≤ (4096 : Int), ([] : List (Int × List UInt8)).length + 1 ≤ 100000, (En.mk (Ob.us (Th.own (sectO [UInt8.ofNat (Int.toNat (7 : Int))]))) true : En Td) = En.mk (Ob.us (Th.own (sectO [UInt8.ofNat (Int.toNat (7 : Int))]))) true, [UInt8.ofNat (Int.toNat (7 : Int))].length ≤ (128 : Nat), (En.mk (Ob.us (Th.own [UInt8.ofNat (Int.toNat (7 : Int))])) true : En Td) = En.mk (Ob.us (Th.own [UInt8.ofNat (Int.toNat (7 : Int))])) true, (0 : Int) ≤ (7 : Int) ∧ (7 : Int) < (256 : Int), false = false, WidL (List.replicate (Int.toNat (2 : Int)) sec0), WidQ (wrQ [] ((List.replicate (Int.toNat (2 : Int)) sec0).length : Int) 1 (sectO [UInt8.ofNat (Int.toNat (7 : Int))]) false false 0), (0 : Int) ≤ (1 : Int) ∧ Int.toNat (1 : Int) < (List.replicate (Int.toNat (2 : Int)) sec0).length, true = true → (0 : Int) ≤ (0 : Int) ∧ Int.toNat (0 : Int) < (isD (List.replicate (Int.toNat (2 : Int)) sec0) (wrQ [] (↑(List.replicate (Int.toNat (2 : Int)) sec0).length : Int) (1 : Int) (sectO [UInt8.ofNat (Int.toNat (7 : Int))]) false false (0 : Int)) (1 : Int)).length, Value.bool true = Value.bool true], by kernel_rfl, (by refine mcons ?_ (mcons ?_ (mcons ?_ (mcons ?_ (mcons ?_ (mcons ?_ (mcons ?_ (mcons ?_ (mcons ?_ (mcons ?_ (mcons ?_ (mcons ?_ mnil))))))))))) <;> first | rfl | trivial | (exact fun l hl => by rw [List.eq_of_mem_replicate hl]; rfl) | (decide +kernel) | (exact ⟨by decide +kernel, by decide +kernel⟩) | (exact fun _ => by decide +kernel))⟩
def C_lives : Ctr Td := fun us sub => match us, sub with
  | [], [] => some ([], svV (.bool true), [])
  | _, _ => none
set_option maxRecDepth 100000 in
theorem C_lives_ok : CtrOk Try.prog Id' 22 C_lives := by
  intro us sub ps x sm h hp w e vs hM ha
  unfold C_lives at h
  split at h
  · skip
    simp only [Option.some.injEq, Prod.mk.injEq] at h
    obtain ⟨rfl, rfl, rfl⟩ := h
    exact ctr_way (I := Id') (fun (W0 : World) (G : Nat → Prop) => SyOk.mk2 Try.mixed dkHo_ok (FnsR.cons (R_newG) (FnsR.cons (R_sectP) (FnsR.cons (R_write) (FnsR.cons (R_readG) (FnsR.nil))))) EqsOk.nil) rfl Try.func22 (by kernel_rfl) (fun _ _ => LpsOk.nil _) (cs := [false]) (by kernel_rfl) (lives_w0  ) w e vs hM ha
  · cases h
theorem R_lives : RowOk Try.prog Id' hardD 22 (ctrF Id' C_lives hardD) := ctrF_ok Try.call22 C_lives_ok
end Go.Proofs.Ytonomiljclemnaa
set_option linter.unusedVariables false
set_option linter.unusedSimpArgs false
namespace Go.Proofs.Ytonomiljclemnaa
open Go.RowKit
end Go.Proofs.Ytonomiljclemnaa
