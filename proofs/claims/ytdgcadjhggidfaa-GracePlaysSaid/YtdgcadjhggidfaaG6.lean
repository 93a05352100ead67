/- grace.New, record.With. -/
import Derived.Test.YtdgcadjhggidfaaG4
set_option linter.unusedVariables false
set_option linter.unusedSimpArgs false
namespace Go.Proofs.Ytdgcadjhggidfaa
open Go.RowKit

set_option maxRecDepth 100000 in
set_option maxHeartbeats 1000000 in
theorem new_bad (R : GRec) (span : Int) (w : World) (hs : span < 1 ∨ 16385 < span) :
    Calls Try.prog 6 #[.agg #[.int .u64 R.boot, .int .u64 (R.s 0), .bool (R.h 0), .int .u64 (R.s 1), .bool (R.h 1), .int .u64 (R.s 2), .bool (R.h 2), .int .u64 (R.s 3), .bool (R.h 3), .int .u64 (R.s 4), .bool (R.h 4), .int .u64 (R.s 5), .bool (R.h 5), .int .u64 (R.s 6), .bool (R.h 6), .int .u64 (R.s 7), .bool (R.h 7)], .int .u64 span] w
      fun e w' => e = .returned (.tuple #[.pointer none, .int .i64 2]) ∧ Ext w w' := by
  have hx := (Ext.refl w).alloc (.cells #[.int .u64 R.boot, .int .u64 (R.s 0), .bool (R.h 0), .int .u64 (R.s 1), .bool (R.h 1), .int .u64 (R.s 2), .bool (R.h 2), .int .u64 (R.s 3), .bool (R.h 3), .int .u64 (R.s 4), .bool (R.h 4), .int .u64 (R.s 5), .bool (R.h 5), .int .u64 (R.s 6), .bool (R.h 6), .int .u64 (R.s 7), .bool (R.h 7)] 36)
  rcases (show span < 1 ∨ (¬ span < 1 ∧ 16385 < span) by omega) with h | ⟨h, h'⟩
  · go_enter Try.func6, Try.ntmps6
    go_wp2
    refine bodyPost_ret (v := .tuple #[.pointer none, .int .i64 2]) (by simp [results, Try.results6, go_sem]) rfl ⟨rfl, hx⟩
  · go_enter Try.func6, Try.ntmps6
    go_wp2
    refine bodyPost_ret (v := .tuple #[.pointer none, .int .i64 2]) (by simp [results, Try.results6, go_sem]) rfl ⟨rfl, hx⟩

set_option maxRecDepth 100000 in
set_option maxHeartbeats 1000000 in
theorem new_c (R : GRec) (span : Int) (w : World) (h0 : ¬ span < 1) (h1 : ¬ 16385 < span) :
    Calls Try.prog 6 #[.agg #[.int .u64 R.boot, .int .u64 (R.s 0), .bool (R.h 0), .int .u64 (R.s 1), .bool (R.h 1), .int .u64 (R.s 2), .bool (R.h 2), .int .u64 (R.s 3), .bool (R.h 3), .int .u64 (R.s 4), .bool (R.h 4), .int .u64 (R.s 5), .bool (R.h 5), .int .u64 (R.s 6), .bool (R.h 6), .int .u64 (R.s 7), .bool (R.h 7)], .int .u64 span] w
      fun e w' => ∃ gb, e = .returned (.tuple #[.pointer (some ⟨gb, 0, none⟩), .int .i64 0]) ∧ Ext w w' ∧ GraceIs w' w.heap.size gb R (hol R 8) span 0 := by
  have hx := (Ext.refl w).alloc (.cells #[.int .u64 R.boot, .int .u64 (R.s 0), .bool (R.h 0), .int .u64 (R.s 1), .bool (R.h 1), .int .u64 (R.s 2), .bool (R.h 2), .int .u64 (R.s 3), .bool (R.h 3), .int .u64 (R.s 4), .bool (R.h 4), .int .u64 (R.s 5), .bool (R.h 5), .int .u64 (R.s 6), .bool (R.h 6), .int .u64 (R.s 7), .bool (R.h 7)] 36)
  have hr := range_of_blk (heap_alloc_new w (.cells #[.int .u64 R.boot, .int .u64 (R.s 0), .bool (R.h 0), .int .u64 (R.s 1), .bool (R.h 1), .int .u64 (R.s 2), .bool (R.h 2), .int .u64 (R.s 3), .bool (R.h 3), .int .u64 (R.s 4), .bool (R.h 4), .int .u64 (R.s 5), .bool (R.h 5), .int .u64 (R.s 6), .bool (R.h 6), .int .u64 (R.s 7), .bool (R.h 7)] 36))
  have hz : (w.alloc (.cells #[.int .u64 R.boot, .int .u64 (R.s 0), .bool (R.h 0), .int .u64 (R.s 1), .bool (R.h 1), .int .u64 (R.s 2), .bool (R.h 2), .int .u64 (R.s 3), .bool (R.h 3), .int .u64 (R.s 4), .bool (R.h 4), .int .u64 (R.s 5), .bool (R.h 5), .int .u64 (R.s 6), .bool (R.h 6), .int .u64 (R.s 7), .bool (R.h 7)] 36)).heap.size = w.heap.size + 1 := by simp
  have HX := Lib.hid hx; clear hx
  have HR := Lib.hid hr; clear hr
  go_enter Try.func6, Try.ntmps6
  go_wp2_with fail
  refine wp_region_rg 4 (fun w' => Ext (w.alloc (.cells #[.int .u64 R.boot, .int .u64 (R.s 0), .bool (R.h 0), .int .u64 (R.s 1), .bool (R.h 1), .int .u64 (R.s 2), .bool (R.h 2), .int .u64 (R.s 3), .bool (R.h 3), .int .u64 (R.s 4), .bool (R.h 4), .int .u64 (R.s 5), .bool (R.h 5), .int .u64 (R.s 6), .bool (R.h 6), .int .u64 (R.s 7), .bool (R.h 7)] 36)) w') Ext
    (vlist [ex (.agg #[.int .u64 R.boot, .int .u64 (R.s 0), .bool (R.h 0), .int .u64 (R.s 1), .bool (R.h 1), .int .u64 (R.s 2), .bool (R.h 2), .int .u64 (R.s 3), .bool (R.h 3), .int .u64 (R.s 4), .bool (R.h 4), .int .u64 (R.s 5), .bool (R.h 5), .int .u64 (R.s 6), .bool (R.h 6), .int .u64 (R.s 7), .bool (R.h 7)]), ex (.agg #[.int .u64 R.boot, .int .u64 (R.s 0), .bool (R.h 0), .int .u64 (R.s 1), .bool (R.h 1), .int .u64 (R.s 2), .bool (R.h 2), .int .u64 (R.s 3), .bool (R.h 3), .int .u64 (R.s 4), .bool (R.h 4), .int .u64 (R.s 5), .bool (R.h 5), .int .u64 (R.s 6), .bool (R.h 6), .int .u64 (R.s 7), .bool (R.h 7)]), (fun v w' => ∃ ao cap, v = .slice ao (hol R 8).length cap ∧ w'.ownsRow w.heap.size 3 1 (.slice ao (hol R 8).length cap) (hol R 8).length ((hol R 8).map iv)), ex (.int .u64 span)])
    (by kernel_rfl) (by kernel_rfl) (Ext.refl _).drew (fun w' _ => Ext.refl w') (fun _ _ h hx => h.trans hx) ?_ ?_ ?_
  · refine fun i v w1 w2 _ _ hV hx => StL.vlist (R := Ext) ?_ i v w1 w2 hV hx
    exact ⟨ex_st, ex_st, fun _ _ _ ⟨ao, cap, e1, e2⟩ hx => ⟨ao, cap, e1, owns_ext e2 hx⟩, ex_st, trivial⟩
  · simp only [List.take_succ_cons, List.take_zero]
    refine RgOps.mk (RgOp.plain (by decide) rfl ?_) ?_
    rotate_left
    refine RgOps.mk (RgOp.plain (by decide) rfl ?_) ?_
    rotate_left
    refine RgOps.mk (RgOp.plain (by decide) rfl ?_) ?_
    rotate_left
    refine RgOps.mk (RgOp.plain (by decide) rfl ?_) ?_
    rotate_left
    exact RgOps.done
    · intro ph vals w' _ hC hd
      refine gives_load_mid 36 (.tmp 2) rfl w.heap.size 0 (by go_simp) _ _ (range_ext HR.out hC) Try.underlying36 rfl (by kernel_rfl) ⟨Ext.refl _, rfl⟩
    · intro ph vals w' _ hC hd
      refine gives_load_mid 36 (.tmp 2) rfl w.heap.size 0 (by go_simp) _ _ (range_ext HR.out hC) Try.underlying36 rfl (by kernel_rfl) ⟨Ext.refl _, rfl⟩
    · intro ph vals w' _ hC hd
      simp [Deps, vlist, ex, Region.binds] at hd
      have hsz := hC.size
      clear hC
      go_simp
      refine (holders_c R w').mono ?_
      rintro e w'' ⟨ao, cap, rfl, hx, hown⟩
      exact ⟨_, rfl, hx, ao, cap, rfl, owns_base hown (by omega)⟩
    · intro ph vals w' _ hC hd
      clear hC
      go_simp
      exact Ext.refl _
  · intro vals w' hC hV
    have e0 := hV 0 (by decide)
    have e2 := hV 2 (by decide)
    have e3 := hV 3 (by decide)
    simp only [vlist, ex, List.getD_cons_zero, List.getD_cons_succ] at e0 e2 e3
    obtain ⟨ao, cap, e2, ho⟩ := e2
    have HC := Lib.hid hC; clear hC hV
    have HO := Lib.hid ho; clear ho
    simp only [List.drop_succ_cons, List.drop_zero]
    go_wp2
    have hgx := (Ext.refl w').alloc (.cells (gcells R (.slice ao (hol R 8).length cap) span 0) 53)
    refine bodyPost_ret (v := .tuple #[.pointer (some ⟨w'.heap.size, 0, none⟩), .int .i64 0]) (by simp [results, Try.results6, go_sem]) rfl ⟨w'.heap.size, rfl, (HX.out.trans HC.out).trans hgx, ao, cap, heap_alloc_new w' _, ?_, owns_ext HO.out hgx⟩
    have := HC.out.size
    omega

end Go.Proofs.Ytdgcadjhggidfaa
