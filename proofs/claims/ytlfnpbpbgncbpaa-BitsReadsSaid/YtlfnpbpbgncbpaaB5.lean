/- The writer of bits: Text. -/
import Derived.Test.YtlfnpbpbgncbpaaB4
set_option linter.unusedVariables false
set_option linter.unusedSimpArgs false
namespace Go.Proofs.Ytlfnpbpbgncbpaa
open Go.RowKit

/-- A text's bits. -/
def textBits (s : List UInt8) : List Bool := bitsOf s.length 16 ++ bitsAll s

set_option maxRecDepth 100000 in
set_option maxHeartbeats 2000000 in
theorem wtext_long (wb B : Nat) (l : List Bool) (err : Int) (s : ByteArray) (w : World) (h : WrIs w B wb l err) (hs : 65536 ≤ s.size) (hs' : s.size ≤ 9223372036854775807) :
    Calls Try.prog 14 #[.pointer (some ⟨wb, 0, none⟩), .string s] w fun r w' => r = .returned (.pointer (some ⟨wb, 0, none⟩)) ∧ WrIs w' B wb l (keepE err 2) ∧ WrMod wb w w' := by
  have c0 := h.c0
  have H := Lib.hid h; clear h
  have hsi : (65536 : Int) ≤ (s.size : Int) := by omega
  clear hs hs'
  go_enter Try.func14, Try.ntmps14
  go_wp2_with fail
  refine (wfail_c wb B l err 2 w H.out).mono ?_
  rintro e w1 ⟨rfl, h4, h5⟩
  go_wp2
  go_ret
  exact ⟨rfl, h4, h5⟩

theorem bitsAll_take_succ (l : List UInt8) (k : Nat) (h : k < l.length) : bitsAll (l.take (k + 1)) = bitsAll (l.take k) ++ bitsOf (l.getD k 0).toNat 8 := by
  rw [List.take_succ_eq_append_getElem h, bitsAll_append]
  congr 1
  simp [bitsAll, List.getD, List.getElem?_eq_getElem h]

set_option maxRecDepth 100000 in
set_option maxHeartbeats 4000000 in
theorem wtext_ok (wb B : Nat) (l : List Bool) (s : ByteArray) (w : World) (h : WrIs w B wb l 0) (hs : s.size < 65536) (hl : l.length ≤ 549755813888) :
    Calls Try.prog 14 #[.pointer (some ⟨wb, 0, none⟩), .string s] w fun r w' => r = .returned (.pointer (some ⟨wb, 0, none⟩)) ∧ WrIs w' B wb (l ++ textBits s.data.toList) 0 ∧ WrMod wb w w' := by
  have c0 := h.c0
  have H := Lib.hid h; clear h
  have HL := Lib.hid hl; clear hl
  obtain ⟨n, hn⟩ : ∃ n, n = s.size := ⟨_, rfl⟩
  have hn2 : n < 65536 := by omega
  have HN := Lib.hid hn
  have HNL : Hid (n = s.data.toList.length) := Lib.hid hn
  have hsi : ¬ (65536 : Int) ≤ (s.size : Int) := by omega
  have hsi2 : ((65536 : Int) ≤ (s.size : Int)) = False := eq_false hsi
  clear hsi
  have HN2 := Lib.hid hn2
  clear hs hn2 hn
  go_enter Try.func14, Try.ntmps14
  have hwr : IntKind.u64.wrap (s.size : Int) = (s.size : Int) := by rw [IntKind.wrap_u64]; have := HN.out; have := HN2.out; omega
  go_wp2_with fail
  refine (put_ok wb B l s.size 16 w H.out (by decide) (by have := HN.out; have := HN2.out; omega) (by have := HL.out; omega)).mono ?_
  rintro e w1 ⟨rfl, h4, h5⟩
  have H4 := Lib.hid h4
  have H5 := Lib.hid h5
  clear h4 h5 c0 H
  go_wp2_with fail
  have hsz : s.size = n := HN.out.symm
  rw [hsz]
  have hnb : n ≤ 9223372036854775806 := by have := HN2.out; omega
  go_loopw [28] (fun i wr => ∃ k : Nat, k ≤ n ∧ i = .int .i64 k ∧ WrIs wr B wb (l ++ bitsOf n 16 ++ bitsAll (s.data.toList.take k)) 0 ∧ WrMod wb w wr) (fun i _ => n - (intOf i).toNat)
  case atStart => exact ⟨0, Nat.zero_le _, rfl, by have := H4.out; rw [hsz] at this; simpa [bitsAll] using this, H5.out⟩
  case round =>
    obtain ⟨k, hk, rfl, hw, hm⟩ := hrel
    have HW := Lib.hid hw
    have HM := Lib.hid hm
    clear hw hm
    by_cases hlt : k < n
    · have hki : (k : Int) < (n : Int) := by omega
      have hks : k < s.size := by rw [hsz]; exact hlt
      have HKL : Hid (k < s.data.toList.length) := Lib.hid (by rw [← HNL.out]; exact hlt)
      have HBK : Hid (s.data.toList.getD k 0 = s[k]'hks) := Lib.hid (by
        have h1 : s.data.toList[k]? = some (s[k]'hks) := List.getElem?_eq_some_iff.2 ⟨HKL.out, rfl⟩
        simp [List.getD, h1])
      have HB8 : Hid ((s[k]'hks).toNat < 256) := Lib.hid (UInt8.toNat_lt _)
      go_wp2_with fail
      rw [IntKind.wrap_u64, Int.emod_eq_of_lt (by omega) (by have := HB8.out; omega)]
      refine (put_ok wb B _ (s[k]).toNat 8 _ HW.out (by decide) HB8.out (by have := HL.out; have := HN2.out; rw [List.length_append, List.length_append, bitsOf_length, bitsAll_length, List.length_take]; omega)).mono ?_
      rintro e w2 ⟨rfl, h6, h7⟩
      have H6 := Lib.hid h6
      have H7 := Lib.hid h7
      clear h6 h7
      go_wp2_with fail
      go_roundw
      case rel =>
        refine ⟨k + 1, by omega, by go_num, ?_, HM.out.trans H7.out⟩
        rw [bitsAll_take_succ _ _ HKL.out, HBK.out, ← List.append_assoc]
        exact H6.out
      case measure => simp [intOf]; omega
    · have hkn : k = n := by omega
      subst hkn
      go_wp2_with fail
      go_ret
      exact ⟨rfl, by have := HW.out; rwa [List.take_of_length_le (by rw [← HNL.out]; exact Nat.le_refl _), HNL.out, List.append_assoc] at this, HM.out⟩

end Go.Proofs.Ytlfnpbpbgncbpaa
