/- The law GraceNobody. -/
import Derived.Test.YtdgcadjhggidfaaG7
set_option linter.unusedVariables false
set_option linter.unusedSimpArgs false
namespace Go.Proofs.Ytdgcadjhggidfaa
open Go.RowKit

def R0 : GRec := ⟨0, fun _ => 0, fun _ => false⟩

set_option maxRecDepth 100000 in
set_option maxHeartbeats 2000000 in
theorem graceNobody_calls (c s : Int) (w : World) (hc : -9223372036854775808 ≤ c ∧ c ≤ 9223372036854775807) (hs : 0 ≤ s ∧ s ≤ 18446744073709551615) :
    Calls Try.prog 5 #[.int .i64 c, .int .u64 s] w fun e w' => e = .returned (.bool true) ∧ Below w.heap.size w w' := by
  clear hc hs
  go_enter Try.func5, Try.ntmps5
  go_wp2
  go_loopw [5, 6] (fun i _ wr => ∃ k : Nat, k ≤ 2 ∧ i = .int .i64 k ∧ Ext w wr) (fun i _ _ => 2 - (intOf i).toNat)
  case atStart => exact ⟨0, by omega, rfl, Ext.refl w⟩
  case round =>
    obtain ⟨k, hk, rfl, hx⟩ := hrel
    have HX := Lib.hid hx; clear hx
    rcases (show k = 0 ∨ k = 1 ∨ k = 2 by omega) with rfl | rfl | rfl
    · go_wp2_with fail
      refine (tick_nil wr).mono ?_
      rintro e w1 ⟨rfl, n1, rfl⟩
      go_wp2_with fail
      refine (over_nil _).mono ?_
      rintro e w1 ⟨rfl, n2, rfl⟩
      go_wp2_with fail
      refine (waits_nil _ _).mono ?_
      rintro e w1 ⟨rfl, rfl⟩
      go_wp2_with fail
      refine (may_nil _ _ _).mono ?_
      rintro e w1 ⟨rfl, n3, rfl⟩
      go_wp2_with fail
      refine (done_nil _ _).mono ?_
      rintro e w1 ⟨rfl, rfl⟩
      go_wp2_with fail
      refine (left_nil _).mono ?_
      rintro e w1 ⟨rfl, rfl⟩
      go_wp2_with fail
      refine (spent_nil _).mono ?_
      rintro e w1 ⟨rfl, rfl⟩
      go_wp2_with fail
      go_roundw
      case rel => exact ⟨1, by omega, by go_num, HX.out.drewN _⟩
      case measure => simp [intOf]
    · have hg : GraceIs (wr.alloc (.cells (gcells R0 (.slice none 0 0) 0 0) 53)) 0 wr.heap.size R0 [] 0 0 :=
        ⟨none, 0, heap_alloc_new wr _, Nat.zero_le _, World.ownsRow_nil _ _ _ _⟩
      have hgx : ∀ n, GraceIs ((wr.alloc (.cells (gcells R0 (.slice none 0 0) 0 0) 53)).drewN n) 0 wr.heap.size R0 [] 0 0 := fun n => hg.ext ((Ext.refl _).drewN n)
      have hxx := HX.out.alloc (.cells (gcells R0 (.slice none 0 0) 0 0) 53)
      have HXX := Lib.hid hxx; clear hxx
      have HG := Lib.hid hg; clear hg
      have HGX := Lib.hid hgx; clear hgx
      go_wp2_with fail
      refine (tick_idle wr.heap.size 0 R0 [] 0 0 _ HG.out (by decide) (by decide) (by decide)).mono ?_
      rintro e w1 ⟨rfl, n1, rfl⟩
      go_wp2_with fail
      refine (over_c wr.heap.size 0 R0 [] 0 0 _ (HGX.out _)).mono ?_
      rintro e w1 ⟨rfl, n2, rfl⟩
      rw [show overB [] 0 0 = true from rfl]
      go_wp2_with fail
      refine (waits_c wr.heap.size 0 R0 [] 0 0 _ _ (HGX.out _)).mono ?_
      rintro e w1 ⟨rfl, rfl⟩
      rw [show decide ((0 : Int) < 0 ∧ c ∈ ([] : List Int)) = false by simp]
      go_wp2_with fail
      refine (may_c wr.heap.size 0 R0 [] 0 0 _ _ _ (HGX.out _) (by simp)).mono ?_
      rintro e w1 ⟨rfl, n3, rfl⟩
      rw [show mayB R0 [] 0 0 c s = false by simp [mayB]]
      go_wp2_with fail
      refine (done_off wr.heap.size 0 R0 [] 0 0 _ _ (HGX.out _) (by decide)).mono ?_
      rintro e w1 ⟨rfl, rfl⟩
      go_wp2_with fail
      refine (left_off wr.heap.size 0 R0 [] 0 0 _ (HGX.out _) (by decide)).mono ?_
      rintro e w1 ⟨rfl, rfl⟩
      go_wp2_with fail
      refine (spent_off wr.heap.size 0 R0 [] 0 0 _ (HGX.out _) (by decide)).mono ?_
      rintro e w1 ⟨rfl, rfl⟩
      go_wp2_with fail
      go_roundw
      case rel => exact ⟨2, by omega, by go_num, HXX.out.drewN _⟩
      case measure => simp [intOf]
    · go_wp2_with fail
      refine (lives_c wr).mono ?_
      rintro e w1 ⟨rfl, hb⟩
      go_wp2
      go_ret
      exact ⟨rfl, HX.out.below.trans (hb.mono HX.out.size)⟩

end Go.Proofs.Ytdgcadjhggidfaa
