/- Contracts of the reference's Of, Number, Reader.Get. -/
import Derived.Test.YtlfnpbpbgncbpaaR2
set_option linter.unusedVariables false
set_option linter.unusedSimpArgs false
namespace Go.Proofs.Ytlfnpbpbgncbpaa
open Go.RowKit

set_option maxRecDepth 100000 in
set_option maxHeartbeats 4000000 in
theorem rof_c (v : Value) (l : List UInt8) (w : World) (h : Bs w v l) (hl : l.length ≤ 100000) :
    Calls Try.prog 28 #[v] w fun e w' => ∃ ao cap, e = .returned (.slice ao (8 * l.length) cap) ∧ Ext w w' ∧ w'.ownsRow w.heap.size 5 1 (.slice ao (8 * l.length) cap) (8 * l.length) ((bbs (bitsAll l)).map bv) := by
  obtain ⟨lo, lcap, rfl, l1, l2, l3, l4⟩ := h.open
  clear h
  obtain ⟨n, hn⟩ : ∃ n, n = l.length := ⟨_, rfl⟩
  rw [← hn] at l1 l4 ⊢
  have HN := Lib.hid hn
  have HC := Lib.hid l4
  have HL3 := Lib.hid l3
  have hnb : n ≤ 100000 := by omega
  clear hn l4 l3 hl
  go_enter Try.func28, Try.ntmps28
  go_wp2_with fail
  go_loopw [3, 4] (fun v i wr => ∃ (k : Nat) (ao : Option Addr) (cap : Nat), k ≤ n ∧ i = .int .i64 k ∧ v = .slice ao (8 * k) cap ∧ Ext w wr ∧ wr.ownsRow w.heap.size 5 1 (.slice ao (8 * k) cap) (8 * k) ((bbs (bitsAll (l.take k))).map bv)) (fun _ i _ => n - (intOf i).toNat)
  case atStart => exact ⟨0, none, 0, Nat.zero_le _, rfl, rfl, Ext.refl w, World.ownsRow_nil _ _ _ _⟩
  case round =>
    obtain ⟨k, ao, cap, hk, rfl, rfl, hx, ho⟩ := hrel
    have HX := Lib.hid hx
    have HO := Lib.hid ho
    clear hx ho
    by_cases hlt : k < n
    · obtain ⟨la, rfl⟩ : ∃ a, lo = some a := by cases lo with | none => have := HL3.out rfl; omega | some a => exact ⟨a, rfl⟩
      have hki : (k : Int) < (n : Int) := by omega
      have hcl := HX.out.cell (HC.out la rfl k hlt)
      have HKL : Hid (k < l.length) := Lib.hid (by rw [← HN.out]; exact hlt)
      have hbs := bitsAll_take_succ l k HKL.out
      generalize l.getD k 0 = b at hcl hbs
      have HBS := Lib.hid hbs
      have hb8 : b.toNat < 256 := UInt8.toNat_lt _
      have HB8 := Lib.hid hb8
      clear hbs hb8
      go_wp2_with fail
      rw [IntKind.wrap_u64, Int.emod_eq_of_lt (by omega) (by have := HB8.out; omega)]
      refine (rbits_c b.toNat 8 _ (by decide) (by have := HB8.out; omega)).mono ?_
      rintro e w2 ⟨bo, bcap, rfl, hx2, ho2⟩
      have HX2 := Lib.hid hx2
      have HO2 := Lib.hid ho2
      have HO3 := Lib.hid (owns_ext HO.out hx2)
      have HSZ : Hid (w.heap.size ≤ w2.heap.size ∧ k ≤ 100000) := Lib.hid ⟨Nat.le_trans HX.out.size hx2.size, by omega⟩
      clear hx2 ho2
      obtain ⟨q, hq⟩ : ∃ q, q = 8 * k := ⟨_, rfl⟩
      rw [← hq] at HO3 ⊢
      have HQ := Lib.hid hq
      clear hq
      go_wp2_with (first | (at_builtin; go_loud (refine wpList_app rfl (.tmp 11) (.tmp 17) 26 rfl etBytes w.heap.size rfl HO3.out rfl (Rs.of_owns HO2.out) (oneCell_bv _) (by have := HSZ.out; have := HQ.out; omega) (by have := HSZ.out; have := HQ.out; omega) (by have := HSZ.out; omega) ?_); intro v' w3 hown hgr _) | fail)
      have hx3 : Ext w w3 := (HX.out.trans HX2.out).grown hgr fun i hi => (owns_block HO3.out hi).1
      obtain ⟨no, ncap, rfl⟩ := owns_shape hown
      have HOWN := Lib.hid hown
      have HX3 := Lib.hid hx3
      clear hown hgr hx3
      go_roundw
      case rel =>
        have hq := HQ.out
        refine ⟨k + 1, no, ncap, by omega, by go_num, by rw [show 8 * (k + 1) = q + 8 by omega], HX3.out, ?_⟩
        rw [show 8 * (k + 1) = q + 8 by omega, HBS.out, bbs_append, List.map_append]
        exact HOWN.out
      case measure => simp [intOf]; omega
    · have hkn : k = n := by omega
      have hki : ((k : Int) < (n : Int)) = False := eq_false (by omega)
      subst hkn
      clear hlt
      go_wp2_with fail
      go_ret
      refine ⟨ao, cap, rfl, HX.out, ?_⟩
      have := HO.out
      rwa [List.take_of_length_le (by rw [← HN.out]; exact Nat.le_refl _)] at this

theorem num_step {x y n : Nat} (hx : x * 2 + y < 2 ^ n) (hn : n ≤ 64) : IntKind.u64.wrap (IntKind.u64.wrap ((x : Int) * 2) + (y : Int)) = ((x * 2 + y : Nat) : Int) := by
  have h : 2 ^ n ≤ 2 ^ 64 := Nat.pow_le_pow_right (by decide) hn
  have h2 : x * 2 + y < 18446744073709551616 := Nat.lt_of_lt_of_le hx h
  rw [IntKind.wrap_u64, IntKind.wrap_u64]
  omega

set_option maxRecDepth 100000 in
set_option maxHeartbeats 4000000 in
theorem rnum_c (v : Value) (bl : List Bool) (w : World) (h : Bs w v (bbs bl)) (hl : bl.length ≤ 64) :
    Calls Try.prog 39 #[v] w fun e w' => e = .returned (.int .u64 (val bl : Int)) ∧ w = w' := by
  obtain ⟨lo, lcap, rfl, l1, l2, l3, l4⟩ := h.open
  clear h
  obtain ⟨n, hn⟩ : ∃ n, n = bl.length := ⟨_, rfl⟩
  rw [bbs_length, ← hn] at l1 l4 ⊢
  have HN := Lib.hid hn
  have HC := Lib.hid l4
  have HL3 := Lib.hid l3
  have hnb : n ≤ 64 := by omega
  clear hn l4 l3 hl
  go_enter Try.func39, Try.ntmps39
  go_wp2_with fail
  go_loopw [3, 4] (fun x i wr => ∃ k : Nat, k ≤ n ∧ i = .int .i64 k ∧ x = .int .u64 (val (bl.take k) : Int) ∧ w = wr) (fun _ i _ => n - (intOf i).toNat)
  case atStart => exact ⟨0, Nat.zero_le _, rfl, rfl, rfl⟩
  case round =>
    obtain ⟨k, hk, rfl, rfl, rfl⟩ := hrel
    by_cases hlt : k < n
    · obtain ⟨la, rfl⟩ : ∃ a, lo = some a := by cases lo with | none => have := HL3.out rfl; omega | some a => exact ⟨a, rfl⟩
      have hki : (k : Int) < (n : Int) := by omega
      have hkl : k < bl.length := by rw [← HN.out]; exact hlt
      have hcl := HC.out la rfl k hlt
      have hb : ((bbs bl).getD k 0).toNat = (bl[k]'hkl).toNat := by
        simp [bbs, List.getD, List.getElem?_eq_getElem hkl]
        cases bl[k]'hkl <;> rfl
      rw [hb] at hcl
      have hv : val (bl.take (k + 1)) = val (bl.take k) * 2 + (bl[k]'hkl).toNat := by
        rw [List.take_succ_eq_append_getElem hkl, val_append, val_cons, val_nil]; simp
      have hlt2 := val_lt (bl.take (k + 1))
      rw [hv, List.length_take] at hlt2
      generalize (bl[k]'hkl).toNat = y at hcl hv hlt2
      generalize val (bl.take k) = x at hv hlt2 ⊢
      have hst := num_step hlt2 (by omega)
      have HV := Lib.hid hv
      have hy : IntKind.u64.wrap (y : Int) = (y : Int) := by
        have h : 2 ^ min (k + 1) bl.length ≤ 2 ^ 64 := Nat.pow_le_pow_right (by decide) (by omega)
        have h2 : x * 2 + y < 18446744073709551616 := Nat.lt_of_lt_of_le hlt2 h
        rw [IntKind.wrap_u64]; omega
      clear hv hlt2 hb hkl
      go_wp2_with fail
      go_roundw
      case rel =>
        refine ⟨k + 1, by omega, by go_num, ?_, trivial⟩
        rw [HV.out]
        first | rfl | exact congrArg (Value.int .u64) hst
      case measure => simp [intOf]; omega
    · have hkn : k = n := by omega
      have hki : ((k : Int) < (n : Int)) = False := eq_false (by omega)
      have htk : bl.take k = bl := List.take_of_length_le (by rw [← HN.out]; omega)
      rw [htk]
      clear hlt hkn htk
      go_wp2_with fail
      go_ret
      exact ⟨rfl, rfl⟩

end Go.Proofs.Ytlfnpbpbgncbpaa
