/- Contracts of the reference's bits: Fits, Bits, Text. -/
import Derived.Test.YtlfnpbpbgncbpaaB15
set_option linter.unusedVariables false
set_option linter.unusedSimpArgs false
namespace Go.Proofs.Ytlfnpbpbgncbpaa
open Go.RowKit

/-- A bit as a byte. -/
def bb (b : Bool) : UInt8 := if b then 1 else 0
def bbs (l : List Bool) : List UInt8 := l.map bb
theorem bbs_length (l : List Bool) : (bbs l).length = l.length := by simp [bbs]
theorem bbs_append (l m : List Bool) : bbs (l ++ m) = bbs l ++ bbs m := List.map_append

set_option maxHeartbeats 1000000 in
theorem rfits_c (x : Nat) (n : Int) (w : World) (hx : x < 18446744073709551616) (hi : -9223372036854775808 ≤ n ∧ n ≤ 9223372036854775807) :
    Calls Try.prog 12 #[.int .u64 x, .int .i64 n] w fun e w' => e = .returned (.bool (decide (fitsN x n))) ∧ w = w' := by
  by_cases h1 : n < 0 ∨ 64 < n
  · have e : ¬ fitsN x n := fun h => by obtain ⟨a, b, _⟩ := h; omega
    rw [decide_eq_false e]
    clear e
    rcases h1 with h1 | h1
    all_goals
      go_enter Try.func12, Try.ntmps12
      go_wp2
      go_ret
      exact ⟨rfl, rfl⟩
  · obtain ⟨m, rfl⟩ := Int.eq_ofNat_of_zero_le (show 0 ≤ n by omega)
    by_cases h2 : m = 64
    · subst h2
      have e : fitsN x ((64 : Nat) : Int) := ⟨by decide, by decide, hx⟩
      rw [decide_eq_true e]
      clear e h1 hi
      go_enter Try.func12, Try.ntmps12
      go_wp2
      go_ret
      exact ⟨rfl, rfl⟩
    · have e : decide (fitsN x (m : Int)) = decide ((x : Int) < 2 ^ m) := by
        congr 1
        apply propext
        have e1 : (2 ^ m : Int) = ((2 ^ m : Nat) : Int) := by push_cast; rfl
        rw [e1]
        unfold fitsN
        rw [Int.toNat_natCast]
        omega
      rw [e]
      have hm0 : ((m : Int) < 0) = False := eq_false (by omega)
      have hm1 : ((64 : Int) < (m : Int)) = False := eq_false (by omega)
      have hm2 : ((m : Int) == 64) = false := by simp; omega
      have hpow : IntKind.u64.wrap (2 ^ m) = (2 ^ m : Int) := by
        have h3 : 2 ^ m ≤ 2 ^ 63 := Nat.pow_le_pow_right (by decide) (by omega)
        have e1 : (2 ^ m : Int) = ((2 ^ m : Nat) : Int) := by push_cast; rfl
        rw [e1, IntKind.wrap_u64]
        exact Int.emod_eq_of_lt (Int.natCast_nonneg _) (by
          have h4 : 2 ^ m < 18446744073709551616 := Nat.lt_of_le_of_lt h3 (by decide)
          exact Int.ofNat_lt.2 h4)
      have hcv : IntKind.u64.wrap (m : Int) = (m : Int) := by rw [IntKind.wrap_u64]; omega
      have hm64 : m ≤ 64 := by omega
      clear h1 h2 e hi
      go_enter Try.func12, Try.ntmps12
      go_wp2
      go_ret
      exact ⟨rfl, rfl⟩

theorem bit_val (x j : Nat) (hx : x < 18446744073709551616) : bits .and .u64 ((x : Int) / 2 ^ j) 1 % 256 = ((bb (x.testBit j)).toNat : Int) := by
  have h1 : x / 2 ^ j < 18446744073709551616 := Nat.lt_of_le_of_lt (Nat.div_le_self _ _) hx
  have h2 := u64_and_nat (x / 2 ^ j) 1 h1 (by decide)
  rw [Nat.and_one_is_mod] at h2
  have e : (x : Int) / 2 ^ j = ((x / 2 ^ j : Nat) : Int) := by push_cast; rfl
  rw [e, show (1 : Int) = ((1 : Nat) : Int) from rfl, h2, Nat.testBit_eq_decide_div_mod_eq]
  rcases (show x / 2 ^ j % 2 = 0 ∨ x / 2 ^ j % 2 = 1 by omega) with h | h <;> rw [h] <;> rfl

set_option maxRecDepth 100000 in
set_option maxHeartbeats 2000000 in
theorem rbits_c (x n : Nat) (w : World) (hn : n ≤ 64) (hx : x < 18446744073709551616) :
    Calls Try.prog 13 #[.int .u64 x, .int .i64 n] w fun e w' => ∃ ao cap, e = .returned (.slice ao n cap) ∧ Ext w w' ∧ w'.ownsRow w.heap.size 5 1 (.slice ao n cap) n ((bbs (bitsOf x n)).map bv) := by
  have HXB := Lib.hid hx
  clear hx
  go_enter Try.func13, Try.ntmps13
  go_wp2_with fail
  go_loopw [5, 6] (fun v i wr => ∃ (k : Nat) (ao : Option Addr) (cap : Nat), k ≤ n ∧ i = .int .i64 ((k : Int) - 1) ∧ v = .slice ao (n - k) cap ∧ Ext w wr ∧ wr.ownsRow w.heap.size 5 1 (.slice ao (n - k) cap) (n - k) ((bbs ((bitsOf x n).take (n - k))).map bv)) (fun _ i _ => (intOf i + 1).toNat)
  case atStart => exact ⟨n, none, 0, Nat.le_refl _, rfl, by rw [Nat.sub_self], Ext.refl w, by rw [Nat.sub_self]; exact World.ownsRow_nil _ _ _ _⟩
  case round =>
    obtain ⟨k, ao, cap, hk, rfl, rfl, hx, ho⟩ := hrel
    have HX := Lib.hid hx
    have HO := Lib.hid ho
    clear hx ho
    by_cases h0 : k = 0
    · subst h0
      go_wp2_with fail
      rw [Nat.sub_zero] at HO ⊢
      go_ret
      exact ⟨ao, cap, rfl, HX.out, by have := HO.out; rwa [List.take_of_length_le (by rw [bitsOf_length]; exact Nat.le_refl _)] at this⟩
    · obtain ⟨j, rfl⟩ : ∃ j, k = j + 1 := ⟨k - 1, by omega⟩
      have hV := bit_val x j HXB.out
      obtain ⟨q, hq⟩ : ∃ q, q = n - (j + 1) := ⟨_, rfl⟩
      rw [← hq] at HO ⊢
      have HQ := Lib.hid hq
      have HSZ : Hid (w.heap.size ≤ wr.heap.size ∧ q ≤ 64) := Lib.hid ⟨HX.out.size, by omega⟩
      clear hq
      go_wp2_with (first | (at_builtin; go_loud (refine wpList_app rfl (.tmp 17) (.tmp 24) 26 rfl etBytes w.heap.size rfl (owns_ext HO.out ((Ext.refl wr).alloc _)) rfl (Rs.of_owns (owns_lit (n := 1) (size := 1) (cs := #[bv (bb (x.testBit j))]) rfl (Nat.le_refl _) (by decide))) (oneCell_bv [bb (x.testBit j)]) (by have := HSZ.out; omega) (by have := HSZ.out; omega) (by have := HSZ.out; simp; omega) ?_); intro v' w1 hown hgr _) | fail)
      have hx1 : Ext w w1 := (HX.out.alloc _).grown hgr fun i hi => (owns_block HO.out hi).1
      obtain ⟨no, ncap, rfl⟩ := owns_shape hown
      have HOWN := Lib.hid hown
      have HX1 := Lib.hid hx1
      clear hown hgr hx1 hV
      go_roundw
      case rel =>
        have hq := HQ.out
        refine ⟨j, no, ncap, by omega, by first | rfl | (refine congrArg (Value.int .i64) ?_; omega), by rw [show n - j = q + 1 by omega], HX1.out, ?_⟩
        rw [show n - j = q + 1 by omega]
        have e : bbs ((bitsOf x n).take (q + 1)) = bbs ((bitsOf x n).take q) ++ [bb (x.testBit j)] := by
          rw [List.take_add_one, bitsOf_getElem? x n q (by omega), bbs_append, show n - 1 - q = j by omega]
          rfl
        rw [e, List.map_append]
        exact HOWN.out
      case measure => simp [intOf]

set_option maxRecDepth 100000 in
set_option maxHeartbeats 4000000 in
theorem rtextb_c (s : ByteArray) (w : World) (hs : s.size ≤ 40) :
    Calls Try.prog 15 #[.string s] w fun e w' => ∃ ao cap, e = .returned (.slice ao (16 + 8 * s.size) cap) ∧ Ext w w' ∧ w'.ownsRow w.heap.size 5 1 (.slice ao (16 + 8 * s.size) cap) (16 + 8 * s.size) ((bbs (textBits s.data.toList)).map bv) := by
  obtain ⟨n, hn⟩ : ∃ n, n = s.size := ⟨_, rfl⟩
  have HN := Lib.hid hn
  have HNL : Hid (n = s.data.toList.length) := Lib.hid hn
  have hn40 : n ≤ 40 := by omega
  have hcv : IntKind.u64.wrap (n : Int) = (n : Int) := by rw [IntKind.wrap_u64]; omega
  rw [← hn]
  have hsz : (s.size : Int) = (n : Int) := by omega
  clear hn hs
  go_enter Try.func15, Try.ntmps15
  go_wp2_with fail
  refine (rbits_c n 16 w (by decide) (by omega)).mono ?_
  rintro e w1 ⟨ao, cap, rfl, hx, ho⟩
  have HX := Lib.hid hx
  have HO := Lib.hid ho
  clear hx ho
  go_wp2_with fail
  go_loopw [3, 4] (fun v i wr => ∃ (k : Nat) (ao : Option Addr) (cap : Nat), k ≤ n ∧ i = .int .i64 k ∧ v = .slice ao (16 + 8 * k) cap ∧ Ext w wr ∧ wr.ownsRow w.heap.size 5 1 (.slice ao (16 + 8 * k) cap) (16 + 8 * k) ((bbs (bitsOf n 16 ++ bitsAll (s.data.toList.take k))).map bv)) (fun _ i _ => n - (intOf i).toNat)
  case atStart => exact ⟨0, ao, cap, Nat.zero_le _, rfl, rfl, HX.out, by have := HO.out; simpa [bitsAll] using this⟩
  case round =>
    obtain ⟨k, ao, cap, hk, rfl, rfl, hx, ho⟩ := hrel
    have HX := Lib.hid hx
    have HO := Lib.hid ho
    clear hx ho
    by_cases hlt : k < n
    · have hki : (k : Int) < (n : Int) := by omega
      have hks : k < s.size := by rw [← HN.out]; exact hlt
      have HB8 : Hid ((s[k]'hks).toNat < 256) := Lib.hid (UInt8.toNat_lt _)
      have HKL : Hid (k < s.data.toList.length) := Lib.hid (by rw [← HNL.out]; exact hlt)
      have HBK : Hid (s.data.toList.getD k 0 = s[k]'hks) := Lib.hid (by
        have h1 : s.data.toList[k]? = some (s[k]'hks) := List.getElem?_eq_some_iff.2 ⟨HKL.out, rfl⟩
        simp [List.getD, h1])
      go_wp2_with fail
      rw [IntKind.wrap_u64, Int.emod_eq_of_lt (by omega) (by have := HB8.out; omega)]
      refine (rbits_c (s[k]).toNat 8 wr (by decide) (by have := HB8.out; omega)).mono ?_
      rintro e w2 ⟨bo, bcap, rfl, hx2, ho2⟩
      have HX2 := Lib.hid hx2
      have HO2 := Lib.hid ho2
      have HO3 := Lib.hid (owns_ext HO.out hx2)
      have HSZ : Hid (w.heap.size ≤ w2.heap.size ∧ k ≤ 40) := Lib.hid ⟨Nat.le_trans HX.out.size hx2.size, by omega⟩
      clear hx2 ho2
      obtain ⟨q, hq⟩ : ∃ q, q = 16 + 8 * k := ⟨_, rfl⟩
      rw [← hq] at HO3 ⊢
      have HQ := Lib.hid hq
      clear hq
      go_wp2_with (first | (at_builtin; go_loud (refine wpList_app rfl (.tmp 15) (.tmp 20) 26 rfl etBytes w.heap.size rfl HO3.out rfl (Rs.of_owns HO2.out) (oneCell_bv _) (by have := HSZ.out; have := HQ.out; omega) (by have := HSZ.out; have := HQ.out; omega) (by have := HSZ.out; omega) ?_); intro v' w3 hown hgr _) | fail)
      have hx3 : Ext w w3 := (HX.out.trans HX2.out).grown hgr fun i hi => (owns_block HO3.out hi).1
      obtain ⟨no, ncap, rfl⟩ := owns_shape hown
      have HOWN := Lib.hid hown
      have HX3 := Lib.hid hx3
      clear hown hgr hx3
      go_roundw
      case rel =>
        have hq := HQ.out
        refine ⟨k + 1, no, ncap, by omega, by go_num, by rw [show 16 + 8 * (k + 1) = q + 8 by omega], HX3.out, ?_⟩
        rw [show 16 + 8 * (k + 1) = q + 8 by omega, bitsAll_take_succ _ _ HKL.out, HBK.out, ← List.append_assoc, bbs_append, List.map_append]
        exact HOWN.out
      case measure => simp [intOf]; omega
    · have hkn : k = n := by omega
      have hki : ((k : Int) < (n : Int)) = False := eq_false (by omega)
      subst hkn
      clear hlt
      go_wp2_with fail
      go_ret
      refine ⟨ao, cap, rfl, HX.out, ?_⟩
      have := HO.out
      rw [List.take_of_length_le (by rw [← HNL.out]; exact Nat.le_refl _)] at this
      unfold textBits
      rwa [← HNL.out]

end Go.Proofs.Ytlfnpbpbgncbpaa
