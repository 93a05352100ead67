/- slot: the first that is not nought. -/
import Derived.Test.YtophabekaicdeaaV7

set_option linter.unusedVariables false
set_option linter.unusedSimpArgs false
namespace Go.Proofs.Ytophabekaicdeaa
open Go.RowKit

def orI : List Int → Int
  | [] => 0
  | x :: r => if x = 0 then orI r else x
set_option maxRecDepth 100000 in
set_option maxHeartbeats 1000000 in
theorem or_c (va : Value) (xs : List Int) (w : World) (ha : Is w va xs) :
    Calls Try.prog 65 #[va] w fun e w' => e = .returned (.int .i64 (orI xs)) ∧ ∃ n, w' = w.drewN n := by
  obtain ⟨ao, ca, rfl, ca1, ca2, ca3, hca⟩ := ha.open
  clear ha
  obtain ⟨na, hna⟩ : ∃ n, n = xs.length := ⟨_, rfl⟩
  rw [← hna] at ca1 hca ⊢
  have Ha := Lib.hid hca; clear hca
  have Na := Lib.hid hna; clear hna
  have Ca := Lib.hid ca3; clear ca3
  obtain ⟨R, hR⟩ : ∃ R, R = orI xs := ⟨_, rfl⟩
  rw [← hR]
  have HR := Lib.hid hR; clear hR
  go_enter Try.func65, Try.ntmps65
  go_wp2
  go_loopw [8] (fun i wr => ∃ k : Nat, k ≤ na ∧ i = .int .i64 k ∧ Hid (R = orI (xs.drop k)) ∧ ∃ n, wr = w.drewN n) (fun i _ => na - (intOf i).toNat)
  case atStart => exact ⟨0, by omega, rfl, Lib.hid (by rw [HR.out]; rfl), 0, rfl⟩
  case round =>
    obtain ⟨k, hk, rfl, Ht, nd, rfl⟩ := hrel
    by_cases hlt : k < na
    · obtain ⟨a, rfl⟩ : ∃ a, ao = some a := by cases ao with | none => have := Ca.out rfl; omega | some a => exact ⟨a, rfl⟩
      have hax := Ha.out a rfl k hlt
      have e1 : xs.drop k = xs.getD k 0 :: xs.drop (k + 1) := by
        have hl : k < xs.length := by rw [← Na.out]; exact hlt
        rw [List.drop_eq_getElem_cons hl]
        simp [List.getD, List.getElem?_eq_getElem hl]
      generalize xs.getD k 0 = x at hax e1
      have E1 := Lib.hid e1
      clear e1
      by_cases hx : x = 0
      · subst hx
        go_wp2
        go_roundw
        case rel => exact ⟨k + 1, by omega, by go_num, Lib.hid (by rw [Ht.out, E1.out]; simp [orI]), _, rfl⟩
        case measure => simp [intOf]; omega
      · have hne : (x != 0) = true := by rw [bne_iff_ne]; exact hx
        go_wp2
        go_ret
        exact ⟨by rw [Ht.out, E1.out]; simp [orI, hx], _, rfl⟩
    · go_wp2
      go_ret
      exact ⟨by rw [Ht.out, List.drop_of_length_le (by rw [← Na.out]; omega)]; rfl, _, rfl⟩
end Go.Proofs.Ytophabekaicdeaa
