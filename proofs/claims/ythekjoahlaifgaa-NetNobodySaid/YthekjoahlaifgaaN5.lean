/- Contracts: slices.Delete of one element of an owned row; net: Take, Drop, Copy. -/
import Derived.Test.YthekjoahlaifgaaN4
import Derived.StillTailTactics


set_option linter.unusedVariables false
set_option linter.unusedSimpArgs false
namespace Go.Proofs.Ythekjoahlaifgaa
open Go.RowKit

set_option maxRecDepth 100000 in
set_option maxHeartbeats 400000 in
theorem delete_c (B g n cap k : Nat) (xs : List Value) (w : World) (h : w.ownsRow B 34 2 (.slice (some ⟨g, 0, none⟩) n cap) n xs) (hk : k < n) (hn : n ≤ 140737488355328) (h1 : ∀ u ∈ xs, u.oneCell' = true) :
    Calls Try.prog 29 #[.slice (some ⟨g, 0, none⟩) n cap, .int .i64 k, .int .i64 ((k : Int) + 1)] w
      fun e w' => e = .returned (.slice (some ⟨g, 0, none⟩) (n - 1) cap) ∧ Mod (fun j => j = g) w w' ∧
        w'.ownsRow B 34 2 (.slice (some ⟨g, 0, none⟩) (n - 1) cap) (n - 1) (xs.take (k * 2) ++ xs.drop ((k + 1) * 2)) := by
  have hcap : n ≤ cap ∧ cap ≤ 9223372036854775807 := by
    rcases h.2 with ⟨hn, _⟩ | ⟨g', cap', cur, hn, k1, k2, k3, k4, _⟩
    · cases hn
    · simp only [Value.slice.injEq] at hn; obtain ⟨_, _, rfl⟩ := hn; exact ⟨k3, k4⟩
  have H := Lib.hid h; clear h
  have H1 := Lib.hid h1; clear h1
  have b1 : n ≤ cap := hcap.1
  have b2 : cap ≤ 9223372036854775807 := hcap.2
  clear hcap
  have b3 : k ≤ cap := by omega
  have b4 : k + 1 ≤ cap := by omega
  have b6 : (0 : Int) ≤ (k : Int) + 1 := by omega
  have b7 : (k : Int) + 1 ≤ (n : Int) := by omega
  have b5 : k + (n - (k + 1)) = n - 1 := by omega
  have hcut := Rs.cut (Rs.of_owns H.out) (k := k + 1) (m := n)
  have HCut := Lib.hid hcut; clear hcut
  have B5 := Lib.hid b5; clear b5
  go_enter Try.func29, Try.ntmps29
  go_wp2_with fail
  refine wp_region_rg 6 (fun w' => Ext w w') (fun a b => a = b)
    (vlist [ex (.slice (some ⟨g, 0, none⟩) n cap), ex (.int .i64 k), ex (.slice (some ⟨g, 0, none⟩) k cap), ex (.slice (some ⟨g, 0, none⟩) n cap), ex (.int .i64 ((k : Int) + 1)), (fun v w' => Rs w' 2 v (n - (k + 1)) (xs.drop ((k + 1) * 2)))])
    (by kernel_rfl) (by kernel_rfl) (Ext.refl w).drew (fun _ _ => rfl) (fun _ _ h e => e ▸ h) (fun _ _ _ _ _ _ h e => e ▸ h) ?_ ?_
  · simp only [List.take_succ_cons, List.take_zero]
    refine RgOps.mk (RgOp.plain (by decide) rfl ?_) ?_
    rotate_left
    refine RgOps.mk (RgOp.plain (by decide) rfl ?_) ?_
    rotate_left
    refine RgOps.mk (RgOp.plain (by decide) rfl ?_) ?_
    rotate_left
    refine RgOps.mk (RgOp.plain (by decide) rfl ?_) ?_
    rotate_left
    refine RgOps.mk (RgOp.plain (by decide) rfl ?_) ?_
    rotate_left
    refine RgOps.mk (RgOp.plain (by decide) rfl ?_) ?_
    rotate_left
    exact RgOps.done
    · intro ph vals w' _ hC hd; simp [Deps, vlist, ex, Region.binds] at hd; clear hC; go_simp
    · intro ph vals w' _ hC hd; simp [Deps, vlist, ex, Region.binds] at hd; clear hC; go_simp
    · intro ph vals w' _ hC hd; simp [Deps, vlist, ex, Region.binds] at hd; clear hC; go_simp
    · intro ph vals w' _ hC hd; simp [Deps, vlist, ex, Region.binds] at hd; clear hC; go_simp
    · intro ph vals w' _ hC hd; simp [Deps, vlist, ex, Region.binds] at hd; clear hC; go_simp
    · intro ph vals w' _ hC hd
      simp [Deps, vlist, ex, Region.binds] at hd
      have HC := Lib.hid hC; clear hC
      go_simp
      have e : xs.drop ((k + 1) * 2) = (xs.drop ((k + 1) * 2)).take ((n - (k + 1)) * 2) := by
        rw [List.take_of_length_le]
        rw [List.length_drop, H.out.1]; omega
      rw [e]
      refine Rs.ext (HCut.out (by omega) (Nat.le_refl _) (by omega) (by unfold maxLen; omega) ?_ ?_) HC.out
      · intro h; split at h <;> cases h
      · intro a' h hlt
        rw [if_neg (by omega)] at h
        refine ⟨⟨g, 0, none⟩, rfl, ?_⟩
        rw [add_head]; exact (Option.some.inj h).symm
  · intro vals w' hC hV
    have e2 := hV 2 (by decide)
    have e5 := hV 5 (by decide)
    simp only [vlist, ex, List.getD_cons_zero, List.getD_cons_succ] at e2 e5
    have HC := Lib.hid hC; clear hC hV
    have H5 := Lib.hid e5; clear e5
    simp only [List.drop_succ_cons, List.drop_zero]
    refine wpList_app_room rfl (.tmp 22) (.tmp 25) 58 rfl etPk (by go_simp) (owns_ext H.out HC.out) (i := k) (m := n - (k + 1)) (by omega) B5.out (by go_simp) H5.out (fun u hu => H1.out u (List.mem_of_mem_drop hu)) ?_
    intro w2 hown hmod
    have hzv : ∀ w, (zeroValue 34).run Try.prog w = .ok (.agg #[.int .i64 0, .slice none 0 0]) w := fun _ => by simp
    have hzc : (Value.agg #[.int .i64 0, .slice none 0 0]).cells.size = 2 := rfl
    have hz1 : ∀ u ∈ (Value.agg #[.int .i64 0, .slice none 0 0]).cells.toList, u.oneCell' = true := by simp [Value.cells, Value.oneCell']
    have hm1 : n - 1 + (n - (n - 1)) ≤ cap := by omega
    have hm2 : 0 < n - (n - 1) := by omega
    have b8 : n - 1 ≤ n := by omega
    have b9 : n - 1 ≤ cap := by omega
    have HM := Lib.hid hmod; clear hmod
    have HO := Lib.hid hown; clear hown
    go_wp2_with (first | (with_reducible refine wpList_clear_tail (o := ⟨none, _, _, _, _, _⟩) (m := n - (n - 1)) (c := cap - (n - 1)) rfl (.tmp 31) 58 rfl Try.underlying58 hzv hzc hz1 rfl rfl HO.out hm1 hm2 ?_; intro w3 hown3 hmod3) | fail)
    go_ret
    refine ⟨rfl, Mod.trans (Mod.trans (HC.out.mod (F := fun j => j = g)) HM.out fun _ h _ => h) hmod3 fun _ h _ => h, hown3⟩

end Go.Proofs.Ythekjoahlaifgaa
