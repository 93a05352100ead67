/- The law's program: a document's record as the program's. -/
import Derived.Test.YtdgcadjhggidfaaG4
import Derived.RegionTactic
import Derived.Deep.MidRow
set_option linter.unusedVariables false
set_option linter.unusedSimpArgs false
namespace Go.Proofs.Ytdgcadjhggidfaa
open Go.RowKit

def pcells (R : GRec) (k : Nat) : Array Value := #[.int .u64 R.boot, .int .u64 (if 0 < k then R.s 0 else 0), .bool (if 0 < k then R.h 0 else false), .int .u64 (if 1 < k then R.s 1 else 0), .bool (if 1 < k then R.h 1 else false), .int .u64 (if 2 < k then R.s 2 else 0), .bool (if 2 < k then R.h 2 else false), .int .u64 (if 3 < k then R.s 3 else 0), .bool (if 3 < k then R.h 3 else false), .int .u64 (if 4 < k then R.s 4 else 0), .bool (if 4 < k then R.h 4 else false), .int .u64 (if 5 < k then R.s 5 else 0), .bool (if 5 < k then R.h 5 else false), .int .u64 (if 6 < k then R.s 6 else 0), .bool (if 6 < k then R.h 6 else false), .int .u64 (if 7 < k then R.s 7 else 0), .bool (if 7 < k then R.h 7 else false)]
def xcells (R : GRec) : Array Value := #[.int .u64 R.boot, .int .u64 (R.s 0), .int .u64 (R.s 1), .int .u64 (R.s 2), .int .u64 (R.s 3), .int .u64 (R.s 4), .int .u64 (R.s 5), .int .u64 (R.s 6), .int .u64 (R.s 7), .bool (R.h 0), .bool (R.h 1), .bool (R.h 2), .bool (R.h 3), .bool (R.h 4), .bool (R.h 5), .bool (R.h 6), .bool (R.h 7)]
theorem pcells_succ (R : GRec) (k : Nat) (hk : k < 8) : ((pcells R k).setIfInBounds (1 + k * 2) (.int .u64 (R.s k))).setIfInBounds (1 + k * 2 + 1) (.bool (R.h k)) = pcells R (k + 1) := by
  rcases (show k = 0 ∨ k = 1 ∨ k = 2 ∨ k = 3 ∨ k = 4 ∨ k = 5 ∨ k = 6 ∨ k = 7 by omega) with rfl | rfl | rfl | rfl | rfl | rfl | rfl | rfl
  all_goals rfl
theorem xcells_s (R : GRec) (k : Nat) (hk : k < 8) : (xcells R)[1 + k]? = some (.int .u64 (R.s k)) := by
  rcases (show k = 0 ∨ k = 1 ∨ k = 2 ∨ k = 3 ∨ k = 4 ∨ k = 5 ∨ k = 6 ∨ k = 7 by omega) with rfl | rfl | rfl | rfl | rfl | rfl | rfl | rfl
  all_goals rfl
theorem xcells_h (R : GRec) (k : Nat) (hk : k < 8) : (xcells R)[9 + k]? = some (.bool (R.h k)) := by
  rcases (show k = 0 ∨ k = 1 ∨ k = 2 ∨ k = 3 ∨ k = 4 ∨ k = 5 ∨ k = 6 ∨ k = 7 by omega) with rfl | rfl | rfl | rfl | rfl | rfl | rfl | rfl
  all_goals rfl

theorem pcells_one (R : GRec) : (pcells R 8).all (·.oneCell') = true := by simp [pcells, Value.oneCell']

set_option maxRecDepth 100000 in
set_option maxHeartbeats 1000000 in
theorem program_c (R : GRec) (w : World) :
    Calls Try.prog 7 #[.agg #[.int .u64 R.boot, .int .u64 (R.s 0), .int .u64 (R.s 1), .int .u64 (R.s 2), .int .u64 (R.s 3), .int .u64 (R.s 4), .int .u64 (R.s 5), .int .u64 (R.s 6), .int .u64 (R.s 7), .bool (R.h 0), .bool (R.h 1), .bool (R.h 2), .bool (R.h 3), .bool (R.h 4), .bool (R.h 5), .bool (R.h 6), .bool (R.h 7)]] w
      fun e w' => e = .returned (.agg (pcells R 8)) ∧ Ext w w' := by
  go_enter Try.func7, Try.ntmps7
  go_wp2
  go_loopw [4] (fun i wr => ∃ k : Nat, k ≤ 8 ∧ i = .int .i64 k ∧ Ext w wr ∧ wr.heap[w.heap.size]? = some (.cells (xcells R) 26 (0, 0)) ∧ (∃ c, wr.heap[w.heap.size + 1]? = some (.cells c 36 (0, 0)) ∧ c.size = 17) ∧ wr.heap[w.heap.size + 2]? = some (.cells (pcells R k) 36 (0, 0))) (fun i _ => 8 - (intOf i).toNat)
  case atStart =>
    exact ⟨0, by omega, rfl, (((Ext.refl w).alloc _).alloc _).alloc _, blk_old (blk_old (blk_new _ _)), ⟨_, blk_old (blk_new1 _ _ (by simp)), rfl⟩, blk_new1 _ _ (by simp)⟩
  case round =>
    obtain ⟨k, hk, rfl, hx, hb0, ⟨c, hb1, hc⟩, hb2⟩ := hrel
    have hsz := hx.size
    have HX := Lib.hid hx; clear hx
    generalize hA : w.heap.size = A at *
    have hne : A ≠ A + 2 := by omega
    by_cases hlt : k < 8
    · have hs1 : wr.cell? ⟨A, 1 + k, none⟩ = some (.int .u64 (R.s k)) := by rw [cell_of_blk hb0]; exact xcells_s R k hlt
      have hs2 : wr.cell? ⟨A, 9 + k, none⟩ = some (.bool (R.h k)) := by rw [cell_of_blk hb0]; exact xcells_h R k hlt
      have f1 := frozen_of_blk hb2 (1 + k * 2)
      have f2 := frozen_of_blk hb2 (1 + k * 2 + 1)
      have hc1 : ∃ u, wr.cell? ⟨A + 2, 1 + k * 2, none⟩ = some u := by
        rw [cell_of_blk hb2]; exact ⟨_, Array.getElem?_eq_some_iff.2 ⟨by show 1 + k * 2 < 17; omega, rfl⟩⟩
      have hc2 : ∃ u, wr.cell? ⟨A + 2, 1 + k * 2 + 1, none⟩ = some u := by
        rw [cell_of_blk hb2]; exact ⟨_, Array.getElem?_eq_some_iff.2 ⟨by show 1 + k * 2 + 1 < 17; omega, rfl⟩⟩
      obtain ⟨u1, hc1⟩ := hc1
      obtain ⟨u2, hc2⟩ := hc2
      have k0 : (0 : Int) ≤ (k : Int) := by omega
      have k8 : (k : Int) < 8 := by omega
      have B0 := Lib.hid hb0; clear hb0
      have B1 := Lib.hid hb1; clear hb1
      have B2 := Lib.hid hb2; clear hb2
      go_wp2
      go_region
      go_wp2
      go_roundw
      case rel =>
        refine ⟨k + 1, by omega, by go_num, ?_, ?_, ⟨c, ?_, hc⟩, ?_⟩
        · exact ((HX.out.setCell (by show w.heap.size ≤ A + 2; omega) _).setCell (by show w.heap.size ≤ A + 2; omega) _).drew
        · exact setCell_other (setCell_other B0.out (by show A + 2 ≠ A; omega)) (by show A + 2 ≠ A; omega)
        · exact setCell_other (setCell_other B1.out (by show A + 2 ≠ A + 1; omega)) (by show A + 2 ≠ A + 1; omega)
        · rw [← pcells_succ R k hlt]
          exact setCell_blk (setCell_blk B2.out)
      case measure => simp [intOf]; omega
    · have : k = 8 := by omega
      subst this
      have hr := range_of_blk hb2
      have ht := there_of_blk hb1
      rw [hc] at ht
      have h1 := pcells_one R
      have hsz8 : (pcells R 8).size = 17 := rfl
      generalize hC : pcells R 8 = C at *
      have HC := Lib.hid hC; clear hC
      rw [← hsz8] at ht
      have HR := Lib.hid hr; clear hr
      have HT := Lib.hid ht; clear ht
      have H1 := Lib.hid h1; clear h1
      have HS8 := Lib.hid hsz8; clear hsz8
      clear hb0 hb1 hb2 hc
      go_wp2_with (first
        | (refine wpList_load_mid rfl 36 (.tmp 3) rfl (A + 2) 0 rfl C.toList _ HR.out Try.underlying36 rfl (by rw [Array.length_toList, HS8.out]; kernel_rfl) ?_)
        | (refine wpList_store_mid rfl 36 _ _ rfl (A + 1) 0 C rfl rfl HT.out (by rw [HS8.out]; kernel_rfl) H1.out ?_)
        | fail)
      have q0 : (loadVar 36 ⟨A + 1, 0, none⟩).run Try.prog (wr.setCells (A + 1) 0 C.toList) = .ok (.agg C) (wr.setCells (A + 1) 0 C.toList) := by
        have := run_loadVar_mid (P := Try.prog) (wr.setCells (A + 1) 0 C.toList) (A + 1) 0 36 C.toList _ (World.rangeAt_setCells_same wr (A + 1) 0 C.toList (by rw [Array.length_toList]; exact HT.out)) Try.underlying36 rfl (by rw [Array.length_toList, HS8.out]; kernel_rfl)
        simpa using this
      refine bodyPost_ret (v := .agg C) (results_cell Try.results7 rfl q0) rfl ⟨by rw [HC.out], ?_⟩
      exact Mod.trans HX.out (setCells_mod (A + 1) _ 0 wr) (fun i h hl => by omega)

end Go.Proofs.Ytdgcadjhggidfaa
