/- Texts put together: B8 B9 B11 B13 B14 B15 R2. -/
import Derived.Test.YtophabekaicdeaaG1
import Derived.Test.YtophabekaicdeaaOpen
import Derived.Test.YtophabekaicdeaaG0

set_option linter.unusedVariables false
set_option linter.unusedSimpArgs false
namespace Go.Proofs.Ytophabekaicdeaa
open Go.RowKit

set_option maxHeartbeats 1000000 in
theorem rget_err (rb B : Nat) (l : List UInt8) (at' : Nat) (err n : Int) (w : World) (h : RdIs w B rb l at' err) (h0 : err ≠ 0) :
    Calls Try.prog 51 #[.pointer (some ⟨rb, 0, none⟩), .int .i64 n] w fun e w' => e = .returned (.int .u64 0) ∧ w = w' := by
  have H := Lib.hid h; clear h
  have hb : (err != 0) = true := by simpa using h0
  clear h0
  go_enter Try.func51, Try.ntmps51
  go_wp2_with fail
  refine (rerr_c rb B l at' err w H.out).mono ?_
  rintro e w1 ⟨rfl, rfl⟩
  go_wp2
  go_ret
  exact ⟨rfl, rfl⟩

set_option maxHeartbeats 1000000 in
theorem rget_arg (rb B : Nat) (l : List UInt8) (at' : Nat) (n : Int) (w : World) (h : RdIs w B rb l at' 0) (hn : n < 0 ∨ 64 < n) :
    Calls Try.prog 51 #[.pointer (some ⟨rb, 0, none⟩), .int .i64 n] w fun e w' => e = .returned (.int .u64 0) ∧ RdIs w' B rb l at' 2 ∧ Mod (fun k => k = rb) w w' := by
  have c3 := h.c3
  have f3 := h.fz 3
  have H := Lib.hid h; clear h
  rcases hn with hn | hn
  all_goals
    go_enter Try.func51, Try.ntmps51
    go_wp2_with fail
    refine (rerr_c rb B l at' 0 w H.out).mono ?_
    rintro e w1 ⟨rfl, rfl⟩
    go_wp2
    go_ret
    exact ⟨rfl, H.out.setErr 2, Mod.setCell (F := fun k => k = rb) (p := ⟨rb, 3, none⟩) (Mod.refl _ w) (fun _ => rfl) _⟩

set_option maxHeartbeats 1000000 in
theorem rget_short (rb B : Nat) (l : List UInt8) (at' : Nat) (n : Int) (w : World) (h : RdIs w B rb l at' 0) (hn : 0 ≤ n) (hn' : n ≤ 64) (hf : 8 * (l.length : Int) < (at' : Int) + n) (hl : l.length ≤ 140737488355328) (ha : at' ≤ 8 * l.length) :
    Calls Try.prog 51 #[.pointer (some ⟨rb, 0, none⟩), .int .i64 n] w fun e w' => e = .returned (.int .u64 0) ∧ RdIs w' B rb l at' 3 ∧ Mod (fun k => k = rb) w w' := by
  have H := Lib.hid h; clear h
  have HL := Lib.hid hl
  have HA := Lib.hid ha
  have hleft : leftI l at' 0 < n := by rw [leftI_zero]; omega
  generalize hlf : leftI l at' 0 = lf at hleft
  have HLF := Lib.hid hlf
  clear hlf hf hl ha
  go_enter Try.func51, Try.ntmps51
  go_wp2_with fail
  refine (rerr_c rb B l at' 0 w H.out).mono ?_
  rintro e w1 ⟨rfl, rfl⟩
  go_wp2_with fail
  refine (rleft_c rb B l at' 0 w H.out HL.out HA.out).mono ?_
  rintro e w1 ⟨rfl, nd, rfl⟩
  rw [HLF.out]
  have H' := Lib.hid (H.out.ext ((Ext.refl w).drewN nd))
  have c3 := H'.out.c3
  have f3 := H'.out.fz 3
  go_wp2
  go_ret
  exact ⟨rfl, H'.out.setErr 3, Mod.setCell (F := fun k => k = rb) (p := ⟨rb, 3, none⟩) ((Ext.refl w).drewN nd).mod (fun _ => rfl) _⟩

/-- What a Get answers, and what stays. -/
def getV (l : List UInt8) (at' : Nat) (err n : Int) : Nat := if err = 0 ∧ 0 ≤ n ∧ n ≤ 64 ∧ (at' : Int) + n ≤ 8 * (l.length : Int) then val (bitsFrom l at' n.toNat) else 0
def getAt (l : List UInt8) (at' : Nat) (err n : Int) : Nat := if err = 0 ∧ 0 ≤ n ∧ n ≤ 64 ∧ (at' : Int) + n ≤ 8 * (l.length : Int) then at' + n.toNat else at'
def getE (l : List UInt8) (at' : Nat) (err n : Int) : Int := if err ≠ 0 then err else if n < 0 ∨ 64 < n then 2 else if 8 * (l.length : Int) < (at' : Int) + n then 3 else 0
theorem rget_c (rb B : Nat) (l : List UInt8) (at' : Nat) (err n : Int) (w : World) (h : RdIs w B rb l at' err) (hl : l.length ≤ 140737488355328) (ha : at' ≤ 8 * l.length) :
    Calls Try.prog 51 #[.pointer (some ⟨rb, 0, none⟩), .int .i64 n] w fun e w' => e = .returned (.int .u64 (getV l at' err n : Int)) ∧ RdIs w' B rb l (getAt l at' err n) (getE l at' err n) ∧ Mod (fun k => k = rb) w w' := by
  by_cases h0 : err = 0
  · subst h0
    by_cases h1 : n < 0 ∨ 64 < n
    · have e : ¬ ((0 : Int) = 0 ∧ 0 ≤ n ∧ n ≤ 64 ∧ (at' : Int) + n ≤ 8 * (l.length : Int)) := by omega
      rw [getV, getAt, getE, if_neg e, if_neg e, if_neg (by simp), if_pos h1]
      exact rget_arg rb B l at' n w h h1
    · by_cases h2 : 8 * (l.length : Int) < (at' : Int) + n
      · have e : ¬ ((0 : Int) = 0 ∧ 0 ≤ n ∧ n ≤ 64 ∧ (at' : Int) + n ≤ 8 * (l.length : Int)) := by omega
        rw [getV, getAt, getE, if_neg e, if_neg e, if_neg (by simp), if_neg h1, if_pos h2]
        exact rget_short rb B l at' n w h (by omega) (by omega) h2 hl ha
      · have e : ((0 : Int) = 0 ∧ 0 ≤ n ∧ n ≤ 64 ∧ (at' : Int) + n ≤ 8 * (l.length : Int)) := by omega
        rw [getV, getAt, getE, if_pos e, if_pos e, if_neg (by simp), if_neg h1, if_neg h2]
        obtain ⟨m, rfl⟩ := Int.eq_ofNat_of_zero_le (show 0 ≤ n by omega)
        rw [Int.toNat_natCast]
        exact rget_ok rb B l at' m w h (by omega) (by omega) hl
  · have e : ¬ (err = 0 ∧ 0 ≤ n ∧ n ≤ 64 ∧ (at' : Int) + n ≤ 8 * (l.length : Int)) := by omega
    rw [getV, getAt, getE, if_neg e, if_neg e, if_pos h0]
    refine (rget_err rb B l at' err n w h h0).mono ?_
    rintro e w' ⟨h1, rfl⟩
    exact ⟨h1, h, Mod.refl _ w⟩

theorem WrIs.fge {w : World} {B wb : Nat} {l : List Bool} {err : Int} (h : WrIs w B wb l err) : ∀ k, WrF w wb k → B ≤ k := by
  obtain ⟨ao, cap, h1, h2, h3⟩ := h
  rintro k (rfl | ⟨v, q1, q2⟩)
  · exact h2
  · rw [cell_of_blk h1] at q1
    simp only [List.size_toArray, List.getElem?_toArray, List.getElem?_cons_succ, List.getElem?_cons_zero, Option.some.injEq] at q1
    subst q1
    exact (owns_block h3 q2).1
theorem WrIs.below {w w' : World} {B wb : Nat} {l : List Bool} {err : Int} (h : WrIs w B wb l err) (hm : WrMod wb w w') : Below B w w' :=
  hm.1.below (by obtain ⟨_, _, h1, h2, _⟩ := h; have := (Array.getElem?_eq_some_iff.1 h1).1; omega) h.fge
theorem RdIs.below {w w' : World} {B rb : Nat} {l : List UInt8} {at' : Nat} {err : Int} (h : RdIs w B rb l at' err) (hm : Mod (fun k => k = rb) w w') : Below B w w' :=
  hm.below (by have := h.lt; obtain ⟨_, _, _, h2, _⟩ := h; omega) fun k hk => by obtain ⟨_, _, _, h2, _⟩ := h; omega


end Go.Proofs.Ytophabekaicdeaa


set_option linter.unusedVariables false
set_option linter.unusedSimpArgs false
namespace Go.Proofs.Ytophabekaicdeaa
open Go.RowKit

set_option maxHeartbeats 1000000 in
theorem short_c (s : ByteArray) (n : Nat) (hn : n ≤ 9223372036854775807) (w : World) :
    Calls Try.prog 32 #[.string s, .int .i64 n] w fun e w' => ∃ s', e = .returned (.string s') ∧ s'.data.toList = s.data.toList.take n ∧ w = w' := by
  by_cases h : n < s.size
  · have hi : ((n : Int) < (s.size : Int)) = True := eq_true (by omega)
    go_enter Try.func32, Try.ntmps32
    go_wp2
    go_ret
    exact ⟨s.extract 0 n, rfl, by simp [ByteArray.data_extract, Array.toList_extract, List.extract], rfl⟩
  · have hi : ((n : Int) < (s.size : Int)) = False := eq_false (by omega)
    have H := Lib.hid h; clear h
    go_enter Try.func32, Try.ntmps32
    go_wp2
    go_ret
    exact ⟨s, rfl, by rw [List.take_of_length_le (by have := H.out; exact Nat.le_of_not_lt this)], rfl⟩


end Go.Proofs.Ytophabekaicdeaa


set_option linter.unusedVariables false
set_option linter.unusedSimpArgs false
namespace Go.Proofs.Ytophabekaicdeaa
open Go.RowKit

theorem p_and3 {b q : Nat} (hb : b < 256) (h8 : q ≤ 8) : bits .and .u8 (b : Int) ((2 ^ q - 1 : Nat) : Int) = ((b : Int) % 2 ^ q) := by
  have h1 := u8_and_nat b (2 ^ q - 1) hb (by have := p_pow8 h8; have := Nat.two_pow_pos q; omega)
  rw [Nat.and_two_pow_sub_one_eq_mod] at h1
  rw [h1]
  simp

/-- All was read: less than a byte is left, and no bit of it is set. -/
def endB (l : List UInt8) (at' : Nat) : Bool := decide (8 * l.length < at' + 8 ∧ val (bitsFrom l at' (8 * l.length - at')) = 0)
def endI (l : List UInt8) (at' : Nat) (err : Int) : Int := if err ≠ 0 then err else if endB l at' = true then 0 else 6



end Go.Proofs.Ytophabekaicdeaa



set_option linter.unusedVariables false
set_option linter.unusedSimpArgs false
namespace Go.Proofs.Ytophabekaicdeaa
open Go.RowKit


end Go.Proofs.Ytophabekaicdeaa



set_option linter.unusedVariables false
set_option linter.unusedSimpArgs false
namespace Go.Proofs.Ytophabekaicdeaa
open Go.RowKit

/-- The bytes from here, so many. -/
def bytesFrom (l : List UInt8) (at' n : Nat) : List UInt8 := (List.range n).map fun i => UInt8.ofNat (val (bitsFrom l (at' + 8 * i) 8))
theorem bytesFrom_length (l : List UInt8) (at' n : Nat) : (bytesFrom l at' n).length = n := by simp [bytesFrom]
theorem bytesFrom_succ (l : List UInt8) (at' n : Nat) : bytesFrom l at' (n + 1) = bytesFrom l at' n ++ [UInt8.ofNat (val (bitsFrom l (at' + 8 * n) 8))] := by simp [bytesFrom, List.range_succ]

theorem byte_wrap {v : Nat} : (v : Int) % 256 = ((UInt8.ofNat v).toNat : Int) := by
  rw [UInt8.toNat_ofNat']; simp

set_option maxRecDepth 100000 in
set_option maxHeartbeats 4000000 in
theorem rtext_ok (rb B : Nat) (l : List UInt8) (at' n : Nat) (w : World) (h : RdIs w B rb l at' 0) (hn : n = val (bitsFrom l at' 16)) (hf : at' + 16 + 8 * n ≤ 8 * l.length) (hl : l.length ≤ 140737488355328) :
    Calls Try.prog 62 #[.pointer (some ⟨rb, 0, none⟩)] w fun e w' => e = .returned (.string ⟨(bytesFrom l (at' + 16) n).toArray⟩) ∧ RdIs w' B rb l (at' + 16 + 8 * n) 0 ∧ Mod (fun k => k = rb) w w' := by
  have hn16 : n < 65536 := by
    have h1 := val_lt (bitsFrom l at' 16)
    rw [bitsFrom_length (by omega)] at h1
    omega
  have hg := rget_ok rb B l at' 16 w h (by decide) (by omega) hl
  rw [← hn] at hg
  have HG := Lib.hid hg
  have HF := Lib.hid hf
  have HL := Lib.hid hl
  have HN := Lib.hid hn16
  have hcv : IntKind.i64.wrap (n : Int) = (n : Int) := by rw [IntKind.wrap_i64]; omega
  have hmul : IntKind.i64.wrap (8 * (n : Int)) = 8 * (n : Int) := by rw [IntKind.wrap_i64]; omega
  have hnb : n ≤ 9223372036854775806 := by omega
  have H := Lib.hid h
  clear hg hf hl hn hn16 h
  go_enter Try.func62, Try.ntmps62
  go_wp2_with fail
  refine HG.out.mono ?_
  rintro e w1 ⟨rfl, h1, hm1⟩
  have H1 := Lib.hid h1
  have HM1 := Lib.hid hm1
  clear h1 hm1
  go_wp2_with fail
  refine (rerr_c rb B l (at' + 16) 0 w1 H1.out).mono ?_
  rintro e w2 ⟨rfl, rfl⟩
  have hlf := rleft_c rb B l (at' + 16) 0 w1 H1.out HL.out (by have := HF.out; omega)
  have hlt : (leftI l (at' + 16) 0 < 8 * (n : Int)) = False := eq_false (by rw [leftI_zero]; have := HF.out; omega)
  generalize leftI l (at' + 16) 0 = lf at hlf hlt
  have HLF := Lib.hid hlf
  clear hlf
  go_wp2_with fail
  refine HLF.out.mono ?_
  rintro e w2 ⟨rfl, nd, rfl⟩
  have HX2 := Lib.hid (H1.out.ext ((Ext.refl w1).drewN nd))
  have HM2 := Lib.hid (HM1.out.drewN nd)
  generalize w1.drewN nd = w2 at HX2 HM2 ⊢
  go_wp2_with fail
  refine (rerr_c rb B l (at' + 16) 0 w2 HX2.out).mono ?_
  rintro e w3 ⟨rfl, rfl⟩
  obtain ⟨w4, hmk, hown4, hx4⟩ := make_bytes n (by have := HN.out; omega) w2
  obtain ⟨g, hg⟩ : ∃ g, g = w2.heap.size := ⟨_, rfl⟩
  rw [← hg] at hmk hown4
  have HRB : Hid (rb < g) := Lib.hid (by rw [hg]; exact HX2.out.lt)
  have HWG : Hid (w.heap.size ≤ g) := Lib.hid (by rw [hg]; exact HM2.out.size)
  have H4 := Lib.hid (HX2.out.ext hx4)
  have HM4 := Lib.hid (HM2.out.ext hx4)
  have HO4 := Lib.hid hown4
  clear hown4 hx4 hg
  go_wp2_with fail
  clear hmk
  go_loopw [29] (fun i wr => ∃ k : Nat, k ≤ n ∧ i = .int .i64 k ∧ RdIs wr B rb l (at' + 16 + 8 * k) 0 ∧ wr.ownsRow g 5 1 (.slice (some ⟨g, 0, none⟩) n n) n ((bytesFrom l (at' + 16) k ++ List.replicate (n - k) 0).map bv) ∧ Mod (fun k => k = rb) w wr) (fun i _ => n - (intOf i).toNat)
  case atStart => exact ⟨0, Nat.zero_le _, rfl, H4.out, by simpa [bytesFrom] using HO4.out, HM4.out⟩
  case round =>
    obtain ⟨k, hk, rfl, hr, ho, hm⟩ := hrel
    have HR := Lib.hid hr
    have HO := Lib.hid ho
    have HM := Lib.hid hm
    clear hr ho hm
    by_cases hlt : k < n
    · have hgt := rget_ok rb B l (at' + 16 + 8 * k) 8 _ HR.out (by decide) (by have := HF.out; omega) HL.out
      have hbs := bytesFrom_succ l (at' + 16) k
      generalize val (bitsFrom l (at' + 16 + 8 * k) 8) = v at hgt hbs
      have HGT := Lib.hid hgt
      have HBS := Lib.hid hbs
      clear hgt hbs
      go_wp2_with fail
      refine HGT.out.mono ?_
      rintro e w5 ⟨rfl, h5, hm5⟩
      have ho5 := owns_mod HO.out hm5 fun q hq e => by
        have := HRB.out
        have hq' : g = q := by simpa [Value.ownBlock] using hq
        omega
      have hcell : w5.cell? ⟨g, k, none⟩ = some (.int .u8 0) := by
        rw [World.ownsRow.cellAt ho5 _ (by omega)]
        rw [List.getElem?_map, List.getElem?_append_right (by rw [bytesFrom_length]; exact Nat.le_refl _), bytesFrom_length, Nat.sub_self, List.getElem?_replicate, if_pos (by omega)]
        rfl
      have hfz : w5.frozen? ⟨g, k, none⟩ = false := World.ownsRow.frozenAt ho5 _
      have H5 := Lib.hid h5
      have HM5 := Lib.hid (HM.out.trans hm5 fun _ h _ => h)
      have HO5 := Lib.hid ho5
      have hki : (k : Int) < (n : Int) := by omega
      clear h5 hm5 ho5
      go_wp2_with fail
      rw [byte_wrap]
      go_roundw
      case rel =>
        refine ⟨k + 1, by omega, by go_num, ?_, ?_, ?_⟩
        · have := H5.out.setOther HRB.out k (.int .u8 ((UInt8.ofNat v).toNat : Int))
          rwa [show at' + 16 + 8 * (k + 1) = at' + 16 + 8 * k + 8 by omega]
        · have := (World.ownsRow.stored HO5.out k (.int .u8 ((UInt8.ofNat v).toNat : Int))).1
          rw [HBS.out]
          have e : ((bytesFrom l (at' + 16) k ++ List.replicate (n - k) 0).map bv).set k (.int .u8 ((UInt8.ofNat v).toNat : Int)) = (bytesFrom l (at' + 16) k ++ [UInt8.ofNat v] ++ List.replicate (n - (k + 1)) 0).map bv := by
            rw [show n - k = n - (k + 1) + 1 by omega, List.replicate_succ, List.map_append, List.set_append_right _ _ (by simp [bytesFrom_length])]
            simp [bytesFrom_length, bv]
          rwa [e] at this
        · exact Mod.setCell (F := fun k => k = rb) (p := ⟨g, k, none⟩) HM5.out (fun hl => by have := HWG.out; have hl' : g < w.heap.size := hl; omega) _
      case measure => simp [intOf]; omega
    · have hkn : k = n := by omega
      have hconv := convert_bytes (v := .slice (some ⟨g, 0, none⟩) n n) (l := bytesFrom l (at' + 16) n) (w := wr) (by
        have := Rs.of_owns HO.out
        rw [hkn, Nat.sub_self, List.replicate_zero, List.append_nil] at this
        unfold Bs
        rwa [bytesFrom_length])
      have hkl : ((k : Int) < (n : Int)) = False := eq_false (by omega)
      have HK := Lib.hid hkn
      clear hlt hkn
      go_wp2_with fail
      go_ret
      refine ⟨rfl, ?_, HM.out⟩
      have := HR.out
      rwa [HK.out] at this

end Go.Proofs.Ytophabekaicdeaa



set_option linter.unusedVariables false
set_option linter.unusedSimpArgs false
namespace Go.Proofs.Ytophabekaicdeaa
open Go.RowKit

def putL (bl : List Bool) (err : Int) (x : Nat) (n : Int) : List Bool := if err = 0 ∧ fitsN x n then bl ++ bitsOf x n.toNat else bl
def putE (err : Int) (x : Nat) (n : Int) : Int := if err = 0 ∧ ¬ fitsN x n then 2 else err
theorem wput_c (wb B : Nat) (bl : List Bool) (err : Int) (x : Nat) (n : Int) (w : World) (h : WrIs w B wb bl err) (hx : x < 18446744073709551616) (hi : -9223372036854775808 ≤ n ∧ n ≤ 9223372036854775807) (hl : bl.length ≤ 549755813888) :
    Calls Try.prog 44 #[.pointer (some ⟨wb, 0, none⟩), .int .u64 x, .int .i64 n] w fun r w' => r = .returned (.pointer (some ⟨wb, 0, none⟩)) ∧ WrIs w' B wb (putL bl err x n) (putE err x n) ∧ WrMod wb w w' := by
  by_cases h0 : err = 0
  · subst h0
    by_cases hf : fitsN x n
    · have hf' := hf
      obtain ⟨f1, f2, f3⟩ := hf
      obtain ⟨m, rfl⟩ := Int.eq_ofNat_of_zero_le f1
      rw [putL, putE, if_pos ⟨rfl, hf'⟩, if_neg (fun h => h.2 hf'), Int.toNat_natCast]
      rw [Int.toNat_natCast] at f3
      exact put_ok wb B bl x m w h (by omega) f3 (by omega)
    · rw [putL, putE, if_neg (fun h => hf h.2), if_pos ⟨rfl, hf⟩]
      exact put_bad wb B bl x n w h hx hf hi
  · rw [putL, putE, if_neg (fun h => h0 h.1), if_neg (fun h => h0 h.1)]
    refine (put_err wb B bl err x n w h h0).mono ?_
    rintro r w' ⟨h1, rfl⟩
    exact ⟨h1, h, WrMod.of_ext (Ext.refl w) h.lt⟩

set_option maxRecDepth 100000 in
set_option maxHeartbeats 4000000 in
theorem wtext_err (wb B : Nat) (l : List Bool) (err : Int) (s : ByteArray) (w : World) (h : WrIs w B wb l err) (he : err ≠ 0) (hs : s.size < 65536) :
    Calls Try.prog 59 #[.pointer (some ⟨wb, 0, none⟩), .string s] w fun r w' => r = .returned (.pointer (some ⟨wb, 0, none⟩)) ∧ w = w' := by
  have c0 := h.c0
  have H := Lib.hid h; clear h
  obtain ⟨n, hn⟩ : ∃ n, n = s.size := ⟨_, rfl⟩
  have hn2 : n < 65536 := by omega
  have HN := Lib.hid hn
  have hsi : ¬ (65536 : Int) ≤ (s.size : Int) := by omega
  have hsi2 : ((65536 : Int) ≤ (s.size : Int)) = False := eq_false hsi
  clear hsi
  have HN2 := Lib.hid hn2
  have HE := Lib.hid he
  clear hs hn2 hn he
  have hwr : IntKind.u64.wrap (s.size : Int) = (s.size : Int) := by rw [IntKind.wrap_u64]; have := HN.out; have := HN2.out; omega
  go_enter Try.func59, Try.ntmps59
  go_wp2_with fail
  refine (put_err wb B l err s.size 16 w H.out HE.out).mono ?_
  rintro e w1 ⟨rfl, rfl⟩
  clear c0
  go_wp2_with fail
  have hsz : s.size = n := HN.out.symm
  rw [hsz]
  have hnb : n ≤ 9223372036854775806 := by have := HN2.out; omega
  go_loopw [28] (fun i wr => ∃ k : Nat, k ≤ n ∧ i = .int .i64 k ∧ w = wr) (fun i _ => n - (intOf i).toNat)
  case atStart => exact ⟨0, Nat.zero_le _, rfl, rfl⟩
  case round =>
    obtain ⟨k, hk, rfl, rfl⟩ := hrel
    by_cases hlt : k < n
    · have hki : (k : Int) < (n : Int) := by omega
      have hks : k < s.size := by rw [hsz]; exact hlt
      have HB8 : Hid ((s[k]'hks).toNat < 256) := Lib.hid (UInt8.toNat_lt _)
      go_wp2_with fail
      rw [IntKind.wrap_u64, Int.emod_eq_of_lt (by omega) (by have := HB8.out; omega)]
      refine (put_err wb B l err (s[k]).toNat 8 w H.out HE.out).mono ?_
      rintro e w2 ⟨rfl, rfl⟩
      go_wp2_with fail
      go_roundw
      case rel => exact ⟨k + 1, by omega, by go_num, trivial⟩
      case measure => simp [intOf]; omega
    · have hkn : k = n := by omega
      subst hkn
      go_wp2_with fail
      go_ret
      exact ⟨rfl, rfl⟩

def textL (bl : List Bool) (err : Int) (s : ByteArray) : List Bool := if err = 0 then bl ++ textBits s.data.toList else bl
theorem wtext_c (wb B : Nat) (bl : List Bool) (err : Int) (s : ByteArray) (w : World) (h : WrIs w B wb bl err) (hs : s.size < 65536) (hl : bl.length ≤ 549755813888) :
    Calls Try.prog 59 #[.pointer (some ⟨wb, 0, none⟩), .string s] w fun r w' => r = .returned (.pointer (some ⟨wb, 0, none⟩)) ∧ WrIs w' B wb (textL bl err s) err ∧ WrMod wb w w' := by
  by_cases h0 : err = 0
  · subst h0
    rw [textL, if_pos rfl]
    exact wtext_ok wb B bl s w h hs hl
  · rw [textL, if_neg h0]
    refine (wtext_err wb B bl err s w h h0 hs).mono ?_
    rintro r w' ⟨h1, rfl⟩
    exact ⟨h1, h, WrMod.of_ext (Ext.refl w) h.lt⟩


end Go.Proofs.Ytophabekaicdeaa


set_option linter.unusedVariables false
set_option linter.unusedSimpArgs false
namespace Go.Proofs.Ytophabekaicdeaa
open Go.RowKit

/-- A bit as a byte. -/
def bb (b : Bool) : UInt8 := if b then 1 else 0
def bbs (l : List Bool) : List UInt8 := l.map bb
theorem bbs_length (l : List Bool) : (bbs l).length = l.length := by simp [bbs]
theorem bbs_append (l m : List Bool) : bbs (l ++ m) = bbs l ++ bbs m := List.map_append


theorem bit_val (x j : Nat) (hx : x < 18446744073709551616) : bits .and .u64 ((x : Int) / 2 ^ j) 1 % 256 = ((bb (x.testBit j)).toNat : Int) := by
  have h1 : x / 2 ^ j < 18446744073709551616 := Nat.lt_of_le_of_lt (Nat.div_le_self _ _) hx
  have h2 := u64_and_nat (x / 2 ^ j) 1 h1 (by decide)
  rw [Nat.and_one_is_mod] at h2
  have e : (x : Int) / 2 ^ j = ((x / 2 ^ j : Nat) : Int) := by push_cast; rfl
  rw [e, show (1 : Int) = ((1 : Nat) : Int) from rfl, h2, Nat.testBit_eq_decide_div_mod_eq]
  rcases (show x / 2 ^ j % 2 = 0 ∨ x / 2 ^ j % 2 = 1 by omega) with h | h <;> rw [h] <;> rfl

set_option maxRecDepth 100000 in
set_option maxHeartbeats 2000000 in
theorem rbits_c (x n : Nat) (w : World) (hn : n ≤ 64) (hx : x < 18446744073709551616) :
    Calls Try.prog 48 #[.int .u64 x, .int .i64 n] w fun e w' => ∃ ao cap, e = .returned (.slice ao n cap) ∧ Ext w w' ∧ w'.ownsRow w.heap.size 5 1 (.slice ao n cap) n ((bbs (bitsOf x n)).map bv) := by
  have HXB := Lib.hid hx
  clear hx
  go_enter Try.func48, Try.ntmps48
  go_wp2_with fail
  go_loopw [5, 6] (fun v i wr => ∃ (k : Nat) (ao : Option Addr) (cap : Nat), k ≤ n ∧ i = .int .i64 ((k : Int) - 1) ∧ v = .slice ao (n - k) cap ∧ Ext w wr ∧ wr.ownsRow w.heap.size 5 1 (.slice ao (n - k) cap) (n - k) ((bbs ((bitsOf x n).take (n - k))).map bv)) (fun _ i _ => (intOf i + 1).toNat)
  case atStart => exact ⟨n, none, 0, Nat.le_refl _, rfl, by rw [Nat.sub_self], Ext.refl w, by rw [Nat.sub_self]; exact World.ownsRow_nil _ _ _ _⟩
  case round =>
    obtain ⟨k, ao, cap, hk, rfl, rfl, hx, ho⟩ := hrel
    have HX := Lib.hid hx
    have HO := Lib.hid ho
    clear hx ho
    by_cases h0 : k = 0
    · subst h0
      go_wp2_with fail
      rw [Nat.sub_zero] at HO ⊢
      go_ret
      exact ⟨ao, cap, rfl, HX.out, by have := HO.out; rwa [List.take_of_length_le (by rw [bitsOf_length]; exact Nat.le_refl _)] at this⟩
    · obtain ⟨j, rfl⟩ : ∃ j, k = j + 1 := ⟨k - 1, by omega⟩
      have hV := bit_val x j HXB.out
      obtain ⟨q, hq⟩ : ∃ q, q = n - (j + 1) := ⟨_, rfl⟩
      rw [← hq] at HO ⊢
      have HQ := Lib.hid hq
      have HSZ : Hid (w.heap.size ≤ wr.heap.size ∧ q ≤ 64) := Lib.hid ⟨HX.out.size, by omega⟩
      clear hq
      go_wp2_with (first | (at_builtin; go_loud (refine wpList_app rfl (.tmp 17) (.tmp 24) 26 rfl etBytes w.heap.size rfl (owns_ext HO.out ((Ext.refl wr).alloc _)) rfl (Rs.of_owns (owns_lit (n := 1) (size := 1) (cs := #[bv (bb (x.testBit j))]) rfl (Nat.le_refl _) (by decide))) (oneCell_bv [bb (x.testBit j)]) (by have := HSZ.out; omega) (by have := HSZ.out; omega) (by have := HSZ.out; simp; omega) ?_); intro v' w1 hown hgr _) | fail)
      have hx1 : Ext w w1 := (HX.out.alloc _).grown hgr fun i hi => (owns_block HO.out hi).1
      obtain ⟨no, ncap, rfl⟩ := owns_shape hown
      have HOWN := Lib.hid hown
      have HX1 := Lib.hid hx1
      clear hown hgr hx1 hV
      go_roundw
      case rel =>
        have hq := HQ.out
        refine ⟨j, no, ncap, by omega, by first | rfl | (refine congrArg (Value.int .i64) ?_; omega), by rw [show n - j = q + 1 by omega], HX1.out, ?_⟩
        rw [show n - j = q + 1 by omega]
        have e : bbs ((bitsOf x n).take (q + 1)) = bbs ((bitsOf x n).take q) ++ [bb (x.testBit j)] := by
          rw [List.take_add_one, bitsOf_getElem? x n q (by omega), bbs_append, show n - 1 - q = j by omega]
          rfl
        rw [e, List.map_append]
        exact HOWN.out
      case measure => simp [intOf]

set_option maxRecDepth 100000 in
set_option maxHeartbeats 4000000 in
theorem rtextb_c (s : ByteArray) (w : World) (hs : s.size ≤ 60000) :
    Calls Try.prog 61 #[.string s] w fun e w' => ∃ ao cap, e = .returned (.slice ao (16 + 8 * s.size) cap) ∧ Ext w w' ∧ w'.ownsRow w.heap.size 5 1 (.slice ao (16 + 8 * s.size) cap) (16 + 8 * s.size) ((bbs (textBits s.data.toList)).map bv) := by
  obtain ⟨n, hn⟩ : ∃ n, n = s.size := ⟨_, rfl⟩
  have HN := Lib.hid hn
  have HNL : Hid (n = s.data.toList.length) := Lib.hid hn
  have hn40 : n ≤ 60000 := by omega
  have hcv : IntKind.u64.wrap (n : Int) = (n : Int) := by rw [IntKind.wrap_u64]; omega
  rw [← hn]
  have hsz : (s.size : Int) = (n : Int) := by omega
  clear hn hs
  go_enter Try.func61, Try.ntmps61
  go_wp2_with fail
  refine (rbits_c n 16 w (by decide) (by omega)).mono ?_
  rintro e w1 ⟨ao, cap, rfl, hx, ho⟩
  have HX := Lib.hid hx
  have HO := Lib.hid ho
  clear hx ho
  go_wp2_with fail
  go_loopw [3, 4] (fun v i wr => ∃ (k : Nat) (ao : Option Addr) (cap : Nat), k ≤ n ∧ i = .int .i64 k ∧ v = .slice ao (16 + 8 * k) cap ∧ Ext w wr ∧ wr.ownsRow w.heap.size 5 1 (.slice ao (16 + 8 * k) cap) (16 + 8 * k) ((bbs (bitsOf n 16 ++ bitsAll (s.data.toList.take k))).map bv)) (fun _ i _ => n - (intOf i).toNat)
  case atStart => exact ⟨0, ao, cap, Nat.zero_le _, rfl, rfl, HX.out, by have := HO.out; simpa [bitsAll] using this⟩
  case round =>
    obtain ⟨k, ao, cap, hk, rfl, rfl, hx, ho⟩ := hrel
    have HX := Lib.hid hx
    have HO := Lib.hid ho
    clear hx ho
    by_cases hlt : k < n
    · have hki : (k : Int) < (n : Int) := by omega
      have hks : k < s.size := by rw [← HN.out]; exact hlt
      have HB8 : Hid ((s[k]'hks).toNat < 256) := Lib.hid (UInt8.toNat_lt _)
      have HKL : Hid (k < s.data.toList.length) := Lib.hid (by rw [← HNL.out]; exact hlt)
      have HBK : Hid (s.data.toList.getD k 0 = s[k]'hks) := Lib.hid (by
        have h1 : s.data.toList[k]? = some (s[k]'hks) := List.getElem?_eq_some_iff.2 ⟨HKL.out, rfl⟩
        simp [List.getD, h1])
      go_wp2_with fail
      rw [IntKind.wrap_u64, Int.emod_eq_of_lt (by omega) (by have := HB8.out; omega)]
      refine (rbits_c (s[k]).toNat 8 wr (by decide) (by have := HB8.out; omega)).mono ?_
      rintro e w2 ⟨bo, bcap, rfl, hx2, ho2⟩
      have HX2 := Lib.hid hx2
      have HO2 := Lib.hid ho2
      have HO3 := Lib.hid (owns_ext HO.out hx2)
      have HSZ : Hid (w.heap.size ≤ w2.heap.size ∧ k ≤ 60000) := Lib.hid ⟨Nat.le_trans HX.out.size hx2.size, by omega⟩
      clear hx2 ho2
      obtain ⟨q, hq⟩ : ∃ q, q = 16 + 8 * k := ⟨_, rfl⟩
      rw [← hq] at HO3 ⊢
      have HQ := Lib.hid hq
      clear hq
      go_wp2_with (first | (at_builtin; go_loud (refine wpList_app rfl (.tmp 15) (.tmp 20) 26 rfl etBytes w.heap.size rfl HO3.out rfl (Rs.of_owns HO2.out) (oneCell_bv _) (by have := HSZ.out; have := HQ.out; omega) (by have := HSZ.out; have := HQ.out; omega) (by have := HSZ.out; omega) ?_); intro v' w3 hown hgr _) | fail)
      have hx3 : Ext w w3 := (HX.out.trans HX2.out).grown hgr fun i hi => (owns_block HO3.out hi).1
      obtain ⟨no, ncap, rfl⟩ := owns_shape hown
      have HOWN := Lib.hid hown
      have HX3 := Lib.hid hx3
      clear hown hgr hx3
      go_roundw
      case rel =>
        have hq := HQ.out
        refine ⟨k + 1, no, ncap, by omega, by go_num, by rw [show 16 + 8 * (k + 1) = q + 8 by omega], HX3.out, ?_⟩
        rw [show 16 + 8 * (k + 1) = q + 8 by omega, bitsAll_take_succ _ _ HKL.out, HBK.out, ← List.append_assoc, bbs_append, List.map_append]
        exact HOWN.out
      case measure => simp [intOf]; omega
    · have hkn : k = n := by omega
      have hki : ((k : Int) < (n : Int)) = False := eq_false (by omega)
      subst hkn
      clear hlt
      go_wp2_with fail
      go_ret
      refine ⟨ao, cap, rfl, HX.out, ?_⟩
      have := HO.out
      rw [List.take_of_length_le (by rw [← HNL.out]; exact Nat.le_refl _)] at this
      unfold textBits
      rwa [← HNL.out]

end Go.Proofs.Ytophabekaicdeaa

