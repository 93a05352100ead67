/- A grace's Done, Left, Spent. -/
import Derived.Test.YtdgcadjhggidfaaG3
set_option linter.unusedVariables false
set_option linter.unusedSimpArgs false
namespace Go.Proofs.Ytdgcadjhggidfaa
open Go.RowKit

theorem owns_head {w : World} {B : Nat} {e : TypeId} {sz n cap : Nat} {ao : Option Addr} {xs : List Value} (h : w.ownsRow B e sz (.slice ao n cap) n xs) (hn : 0 < n) : ∃ g, ao = some ⟨g, 0, none⟩ := by
  rcases h.2 with ⟨h0, _, _⟩ | ⟨g, cap', cur, hs, _⟩
  · simp only [Value.slice.injEq] at h0; omega
  · simp only [Value.slice.injEq] at hs; exact ⟨g, hs.1⟩

theorem erase_eq (l : List Int) (c : Int) : l.take (l.idxOf c) ++ l.drop (l.idxOf c + 1) = l.erase c := by
  rw [List.erase_eq_eraseIdx_of_idxOf rfl, List.eraseIdx_eq_take_drop_succ]

set_option maxRecDepth 100000 in
set_option maxHeartbeats 1000000 in
theorem done_yes (gb B : Nat) (R : GRec) (left : List Int) (span spent c : Int) (w : World) (h : GraceIs w B gb R left span spent) (hs : 0 < span) (hc : c ∈ left) (hll : left.length ≤ 8) :
    Calls Try.prog 9 #[.pointer (some ⟨gb, 0, none⟩), .int .i64 c] w fun e w' => e = .returned (.int .i64 0) ∧ Mod (TyF w B [53, 3]) w w' ∧ GraceIs w' B gb R (left.erase c) span spent := by
  obtain ⟨ao, cap, g1, g2, g3, g4, g5, g6, g7⟩ := h.open
  have hs' : decide (0 < span) = true := by simpa using hs
  have hlen : 0 < left.length := List.length_pos_iff.2 (List.ne_nil_of_mem hc)
  obtain ⟨g, rfl⟩ := owns_head g7 hlen
  have fz := frozen_of_blk g3 17
  have hidx : idxI c left = (left.idxOf c : Int) := by unfold idxI; rw [if_pos hc]
  have hk := List.idxOf_lt_length_of_mem hc
  have HE := Lib.hid (erase_eq left c)
  have HLE := Lib.hid (List.length_erase_of_mem hc)
  generalize hkk : left.idxOf c = k at hidx hk HE
  have HI := Lib.hid hidx; clear hidx hkk
  have H := Lib.hid h
  have G3 := Lib.hid g3
  have G7 := Lib.hid g7
  obtain ⟨n, hn⟩ : ∃ n, n = left.length := ⟨_, rfl⟩
  have HD := Lib.hid (deletei_c B g left.length cap k (left.map iv) w g7 hk (by omega) (oneCell_iv _))
  rw [← hn] at hk hlen hll HD HLE g4 G7
  have N := Lib.hid hn; clear hn
  clear h g3 g7 hs hc
  go_enter Try.func9, Try.ntmps9
  go_wp2_with fail
  refine (ok_c gb B R left span spent w H.out).mono ?_
  rintro e w' ⟨he, rfl⟩
  rw [hs'] at he
  subst he
  go_wp2_with fail
  have HIS := Lib.hid (Is.of_ownsi (by rw [← N.out]; exact G7.out : w'.ownsRow B 3 1 _ left.length (left.map iv)))
  refine (index_c _ left c _ HIS.out).mono ?_
  rintro e w' ⟨he, rfl⟩
  rw [HI.out] at he
  subst he
  go_wp2_with fail
  refine HD.out.mono ?_
  rintro e w1 ⟨rfl, hm, ho⟩
  have HO := Lib.hid ho; clear ho
  have HM := Lib.hid hm; clear hm
  have hgb : gb ≠ g := fun e => owns_ne_block G7.out G3.out (by decide) (by rw [e]; rfl)
  have hcells := (HM.out.block gb g1 hgb).trans G3.out
  have hf17 := frozen_of_blk hcells 17
  have G1 := Lib.hid hcells; clear hcells
  have hs1 := HM.out.size
  have hw : w1.cell? ⟨gb, 17, none⟩ = some (.slice (some ⟨g, 0, none⟩) n cap) := by rw [cell_of_blk G1.out, N.out]; rfl
  go_wp2
  go_ret
  have hm1 := HM.out
  have hg7 := G7.out
  have hF : ∀ j, j = g → j < w'.heap.size → TyF w' B [53, 3] j := fun j e _ => by
    subst e; exact owns_in_tyF hg7 (by decide) rfl
  refine ⟨rfl, Mod.setCell (hm1.mono fun j hl e => hF j e hl) (fun _ => TyF.gr G3.out g2) _, some ⟨g, 0, none⟩, cap, ?_, g2, ?_⟩
  · rw [HLE.out]
    exact setCell_blk G1.out
  · rw [HLE.out]
    have hoo := HO.out
    rw [← List.map_take, ← List.map_drop, ← List.map_append, HE.out] at hoo
    exact owns_setCell hoo (owns_ne_block hoo G1.out (by decide))

set_option maxHeartbeats 1000000 in
theorem done_no (gb B : Nat) (R : GRec) (left : List Int) (span spent c : Int) (w : World) (h : GraceIs w B gb R left span spent) (hs : 0 < span) (hc : c ∉ left) :
    Calls Try.prog 9 #[.pointer (some ⟨gb, 0, none⟩), .int .i64 c] w fun e w' => e = .returned (.int .i64 11) ∧ w' = w := by
  obtain ⟨ao, cap, g1, g2, g3, g4, g5, g6, g7⟩ := h.open
  have hs' : decide (0 < span) = true := by simpa using hs
  have hidx : idxI c left = -1 := by unfold idxI; rw [if_neg hc]
  have HI := Lib.hid hidx; clear hidx
  have H := Lib.hid h
  have G7 := Lib.hid (Is.of_ownsi g7)
  clear h g3 g7 hs hc
  go_enter Try.func9, Try.ntmps9
  go_wp2_with fail
  refine (ok_c gb B R left span spent w H.out).mono ?_
  rintro e w' ⟨he, rfl⟩
  rw [hs'] at he
  subst he
  go_wp2_with fail
  refine (index_c _ left c _ G7.out).mono ?_
  rintro e w' ⟨he, rfl⟩
  rw [HI.out] at he
  subst he
  go_wp2
  go_ret
  exact ⟨rfl, rfl⟩

set_option maxHeartbeats 400000 in
theorem done_off (gb B : Nat) (R : GRec) (left : List Int) (span spent c : Int) (w : World) (h : GraceIs w B gb R left span spent) (hs : span ≤ 0) :
    Calls Try.prog 9 #[.pointer (some ⟨gb, 0, none⟩), .int .i64 c] w fun e w' => e = .returned (.int .i64 1) ∧ w' = w := by
  go_enter Try.func9, Try.ntmps9
  have HH := Lib.hid (ok_idle gb B R left span spent w h hs)
  clear h hs
  go_wp2_with fail
  refine HH.out.mono ?_
  rintro e w' ⟨rfl, rfl⟩
  go_wp2
  go_ret
  exact ⟨rfl, rfl⟩

set_option maxHeartbeats 400000 in
theorem done_nil (c : Int) (w : World) : Calls Try.prog 9 #[.pointer none, .int .i64 c] w fun e w' => e = .returned (.int .i64 1) ∧ w' = w := by
  go_enter Try.func9, Try.ntmps9
  go_wp2_with fail
  refine (ok_nil w).mono ?_
  rintro e w' ⟨rfl, rfl⟩
  go_wp2
  go_ret
  exact ⟨rfl, rfl⟩

set_option maxHeartbeats 400000 in
theorem left_c (gb B : Nat) (R : GRec) (left : List Int) (span spent : Int) (w : World) (h : GraceIs w B gb R left span spent) (hs : 0 < span) (hll : left.length ≤ 8) :
    Calls Try.prog 20 #[.pointer (some ⟨gb, 0, none⟩)] w fun e w' => ∃ ao cap, e = .returned (.slice ao left.length cap) ∧ Ext w w' ∧ w'.ownsRow w.heap.size 3 1 (.slice ao left.length cap) left.length (left.map iv) := by
  obtain ⟨ao, cap, g1, g2, g3, g4, g5, g6, g7⟩ := h.open
  have hs' : decide (0 < span) = true := by simpa using hs
  have HC := Lib.hid (clonei_c _ left w (Is.of_ownsi g7) (by omega))
  have H := Lib.hid h
  clear h g3 g7 hs
  go_enter Try.func20, Try.ntmps20
  go_wp2_with fail
  refine (ok_c gb B R left span spent w H.out).mono ?_
  rintro e w' ⟨he, rfl⟩
  rw [hs'] at he
  subst he
  go_wp2_with fail
  refine HC.out.mono ?_
  rintro e w' ⟨ao', cap', rfl, hx, ho⟩
  have HX := Lib.hid hx; clear hx
  have HO := Lib.hid ho; clear ho
  go_wp2
  go_ret
  exact ⟨ao', cap', rfl, HX.out, HO.out⟩

set_option maxHeartbeats 400000 in
theorem left_off (gb B : Nat) (R : GRec) (left : List Int) (span spent : Int) (w : World) (h : GraceIs w B gb R left span spent) (hs : span ≤ 0) :
    Calls Try.prog 20 #[.pointer (some ⟨gb, 0, none⟩)] w fun e w' => e = .returned (.slice none 0 0) ∧ w' = w := by
  have HH := Lib.hid (ok_idle gb B R left span spent w h hs)
  clear h hs
  go_enter Try.func20, Try.ntmps20
  go_wp2_with fail
  refine HH.out.mono ?_
  rintro e w' ⟨rfl, rfl⟩
  go_wp2
  go_ret
  exact ⟨rfl, rfl⟩

set_option maxHeartbeats 400000 in
theorem left_nil (w : World) :
    Calls Try.prog 20 #[.pointer none] w fun e w' => e = .returned (.slice none 0 0) ∧ w' = w := by
  go_enter Try.func20, Try.ntmps20
  go_wp2_with fail
  refine (ok_nil w).mono ?_
  rintro e w' ⟨rfl, rfl⟩
  go_wp2
  go_ret
  exact ⟨rfl, rfl⟩

set_option maxHeartbeats 400000 in
theorem spent_c (gb B : Nat) (R : GRec) (left : List Int) (span spent : Int) (w : World) (h : GraceIs w B gb R left span spent) (hs : 0 < span) :
    Calls Try.prog 16 #[.pointer (some ⟨gb, 0, none⟩)] w fun e w' => e = .returned (.int .u64 spent) ∧ w' = w := by
  obtain ⟨ao, cap, g1, g2, g3, g4, g5, g6, g7⟩ := h.open
  have hs' : decide (0 < span) = true := by simpa using hs
  have H := Lib.hid h
  clear h g3 g7 hs
  go_enter Try.func16, Try.ntmps16
  go_wp2_with fail
  refine (ok_c gb B R left span spent w H.out).mono ?_
  rintro e w' ⟨he, rfl⟩
  rw [hs'] at he
  subst he
  go_wp2
  go_ret
  exact ⟨rfl, rfl⟩

set_option maxHeartbeats 400000 in
theorem spent_off (gb B : Nat) (R : GRec) (left : List Int) (span spent : Int) (w : World) (h : GraceIs w B gb R left span spent) (hs : span ≤ 0) :
    Calls Try.prog 16 #[.pointer (some ⟨gb, 0, none⟩)] w fun e w' => e = .returned (.int .u64 0) ∧ w' = w := by
  have HH := Lib.hid (ok_idle gb B R left span spent w h hs)
  clear h hs
  go_enter Try.func16, Try.ntmps16
  go_wp2_with fail
  refine HH.out.mono ?_
  rintro e w' ⟨rfl, rfl⟩
  go_wp2
  go_ret
  exact ⟨rfl, rfl⟩

set_option maxHeartbeats 400000 in
theorem spent_nil (w : World) : Calls Try.prog 16 #[.pointer none] w fun e w' => e = .returned (.int .u64 0) ∧ w' = w := by
  go_enter Try.func16, Try.ntmps16
  go_wp2_with fail
  refine (ok_nil w).mono ?_
  rintro e w' ⟨rfl, rfl⟩
  go_wp2
  go_ret
  exact ⟨rfl, rfl⟩

end Go.Proofs.Ytdgcadjhggidfaa
