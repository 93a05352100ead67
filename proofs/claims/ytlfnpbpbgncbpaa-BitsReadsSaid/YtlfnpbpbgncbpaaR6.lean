/- Contracts of the reference's reader: Left, End, Text. -/
import Derived.Test.YtlfnpbpbgncbpaaR5
import Derived.Test.YtlfnpbpbgncbpaaB14
set_option linter.unusedVariables false
set_option linter.unusedSimpArgs false
namespace Go.Proofs.Ytlfnpbpbgncbpaa
open Go.RowKit

def rleftI (bs : List Bool) (err : Int) : Int := if err = 0 then (bs.length : Int) else 0
set_option maxHeartbeats 1000000 in
theorem rrleft_c (xb B : Nat) (bs : List Bool) (err : Int) (w : World) (h : RRd w B xb bs err) :
    Calls Try.prog 33 #[.pointer (some ⟨xb, 0, none⟩)] w fun e w' => e = .returned (.int .i64 (rleftI bs err)) ∧ w = w' := by
  have c1 := h.c1
  obtain ⟨ao, cap, g1, g2, g3, g4⟩ := h
  have c0 : w.cell? ⟨xb, 0, none⟩ = some (.slice ao bs.length cap) := by rw [cell_of_blk g1]; rfl
  clear g1 g2 g3 g4
  by_cases h0 : err = 0
  · subst h0
    rw [rleftI, if_pos rfl]
    obtain ⟨p, hp⟩ : ∃ p, p = bs.length := ⟨_, rfl⟩
    rw [← hp] at c0 ⊢
    clear hp
    go_enter Try.func33, Try.ntmps33
    go_wp2
    go_ret
    exact ⟨rfl, rfl⟩
  · rw [rleftI, if_neg h0]
    have hb : (err != 0) = true := by simpa using h0
    clear h0
    go_enter Try.func33, Try.ntmps33
    go_wp2
    go_ret
    exact ⟨rfl, rfl⟩

def rendI (bs : List Bool) (err : Int) : Int := if err ≠ 0 then err else if bs.length < 8 ∧ val bs = 0 then 0 else 6
set_option maxHeartbeats 1000000 in
theorem rrend_c (xb B : Nat) (bs : List Bool) (err : Int) (w : World) (h : RRd w B xb bs err) :
    Calls Try.prog 34 #[.pointer (some ⟨xb, 0, none⟩)] w fun e w' => e = .returned (.int .i64 (rendI bs err)) ∧ w = w' := by
  have c1 := h.c1
  obtain ⟨ao, cap, g1, g2, g3, g4⟩ := h
  obtain ⟨p, hp⟩ : ∃ p, p = bs.length := ⟨_, rfl⟩
  have c0 : w.cell? ⟨xb, 0, none⟩ = some (.slice ao p cap) := by rw [cell_of_blk g1, hp]; rfl
  rw [← hp] at g3
  clear g1 g2 g4
  by_cases h0 : err = 0
  · subst h0
    by_cases h8 : 8 ≤ p
    · rw [rendI, if_neg (by simp), if_neg (by omega)]
      clear hp g3
      go_enter Try.func34, Try.ntmps34
      go_wp2
      go_ret
      exact ⟨rfl, rfl⟩
    · have h8' : p < 8 := by omega
      have HNUM := Lib.hid (rnum_c _ bs w g3 (by omega))
      obtain ⟨x, hx⟩ : ∃ x, x = val bs := ⟨_, rfl⟩
      rw [← hx] at HNUM
      have e : rendI bs 0 = if ((x : Int) != 0) = true then 6 else 0 := by
        rw [rendI, if_neg (by simp), ← hx]
        by_cases hz : x = 0
        · rw [if_pos ⟨by omega, hz⟩, if_neg (by simp [hz])]
        · rw [if_neg (fun h => hz h.2), if_pos (by rw [bne_iff_ne]; omega)]
      rw [e]
      clear hp g3 hx e h8
      go_enter Try.func34, Try.ntmps34
      go_wp2_with fail
      refine HNUM.out.mono ?_
      rintro r w1 ⟨rfl, rfl⟩
      cases hz : ((x : Int) != 0)
      all_goals
        go_wp2
        go_ret
        exact ⟨rfl, rfl⟩
  · rw [rendI, if_pos h0]
    have hb : (err != 0) = true := by simpa using h0
    clear h0 hp g3
    go_enter Try.func34, Try.ntmps34
    go_wp2
    go_ret
    exact ⟨rfl, rfl⟩

end Go.Proofs.Ytlfnpbpbgncbpaa
