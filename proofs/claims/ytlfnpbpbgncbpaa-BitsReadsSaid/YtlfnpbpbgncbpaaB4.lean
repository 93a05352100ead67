/- The writer of bits: Done. -/
import Derived.Test.YtlfnpbpbgncbpaaB3
import Derived.Test.YtlfnpbpbgncbpaaClone
set_option linter.unusedVariables false
set_option linter.unusedSimpArgs false
namespace Go.Proofs.Ytlfnpbpbgncbpaa
open Go.RowKit

set_option maxHeartbeats 1000000 in
theorem done_err (wb B : Nat) (l : List Bool) (err : Int) (w : World) (h : WrIs w B wb l err) (h0 : err ≠ 0) :
    Calls Try.prog 16 #[.pointer (some ⟨wb, 0, none⟩)] w fun r w' => r = .returned (.tuple #[.slice none 0 0, .int .i64 err]) ∧ ∃ n, w' = w.drewN n := by
  have c0 := h.c0
  have c3 := h.c3
  have hb : (err != 0) = true := by simpa using h0
  clear h0 h
  go_enter Try.func16, Try.ntmps16
  go_wp2_with fail
  go_quiet (fail)
  go_wp2
  refine bodyPost_ret (v := .tuple #[.slice none 0 0, .int .i64 err]) (by simp [results, Try.results16, go_sem]) rfl ⟨rfl, _, rfl⟩

set_option maxHeartbeats 1000000 in
theorem done_ok (wb B : Nat) (l : List Bool) (w : World) (h : WrIs w B wb l 0) (hl : l.length ≤ 1099511627776) :
    Calls Try.prog 16 #[.pointer (some ⟨wb, 0, none⟩)] w fun r w' => ∃ ao cap, r = .returned (.tuple #[.slice ao (packed l).length cap, .int .i64 0]) ∧ Ext w w' ∧ w'.ownsRow w.heap.size 5 1 (.slice ao (packed l).length cap) (packed l).length ((packed l).map bv) := by
  have c0 := h.c0
  have c3 := h.c3
  obtain ⟨ao, cap, h1, h2, h3⟩ := h
  have c1 : w.cell? ⟨wb, 1, none⟩ = some (.slice ao (packed l).length cap) := by rw [cell_of_blk h1]; rfl
  have H3 := Lib.hid h3
  have HL := Lib.hid hl
  clear h1 h2 h3 hl
  go_enter Try.func16, Try.ntmps16
  go_wp2_with fail
  refine (clone_c _ (packed l) w (Rs.of_owns H3.out) (by have := packed_length l; have := HL.out; omega)).mono ?_
  rintro e w1 ⟨ao', cap', rfl, hx, hown⟩
  have HX := Lib.hid hx
  have HO := Lib.hid hown
  clear hx hown
  go_wp2
  refine bodyPost_ret (v := .tuple #[.slice ao' (packed l).length cap', .int .i64 0]) (by simp [results, Try.results16, go_sem]) rfl ⟨_, _, rfl, HX.out, HO.out⟩

end Go.Proofs.Ytlfnpbpbgncbpaa
