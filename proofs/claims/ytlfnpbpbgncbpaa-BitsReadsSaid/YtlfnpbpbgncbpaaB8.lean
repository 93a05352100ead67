/- The reader of bits: Get that fails; a number is put at all. -/
import Derived.Test.YtlfnpbpbgncbpaaB7
set_option linter.unusedVariables false
set_option linter.unusedSimpArgs false
namespace Go.Proofs.Ytlfnpbpbgncbpaa
open Go.RowKit

set_option maxHeartbeats 1000000 in
theorem rget_err (rb B : Nat) (l : List UInt8) (at' : Nat) (err n : Int) (w : World) (h : RdIs w B rb l at' err) (h0 : err ≠ 0) :
    Calls Try.prog 24 #[.pointer (some ⟨rb, 0, none⟩), .int .i64 n] w fun e w' => e = .returned (.int .u64 0) ∧ w = w' := by
  have H := Lib.hid h; clear h
  have hb : (err != 0) = true := by simpa using h0
  clear h0
  go_enter Try.func24, Try.ntmps24
  go_wp2_with fail
  refine (rerr_c rb B l at' err w H.out).mono ?_
  rintro e w1 ⟨rfl, rfl⟩
  go_wp2
  go_ret
  exact ⟨rfl, rfl⟩

set_option maxHeartbeats 1000000 in
theorem rget_arg (rb B : Nat) (l : List UInt8) (at' : Nat) (n : Int) (w : World) (h : RdIs w B rb l at' 0) (hn : n < 0 ∨ 64 < n) :
    Calls Try.prog 24 #[.pointer (some ⟨rb, 0, none⟩), .int .i64 n] w fun e w' => e = .returned (.int .u64 0) ∧ RdIs w' B rb l at' 2 ∧ Mod (fun k => k = rb) w w' := by
  have c3 := h.c3
  have f3 := h.fz 3
  have H := Lib.hid h; clear h
  rcases hn with hn | hn
  all_goals
    go_enter Try.func24, Try.ntmps24
    go_wp2_with fail
    refine (rerr_c rb B l at' 0 w H.out).mono ?_
    rintro e w1 ⟨rfl, rfl⟩
    go_wp2
    go_ret
    exact ⟨rfl, H.out.setErr 2, Mod.setCell (F := fun k => k = rb) (p := ⟨rb, 3, none⟩) (Mod.refl _ w) (fun _ => rfl) _⟩

set_option maxHeartbeats 1000000 in
theorem rget_short (rb B : Nat) (l : List UInt8) (at' : Nat) (n : Int) (w : World) (h : RdIs w B rb l at' 0) (hn : 0 ≤ n) (hn' : n ≤ 64) (hf : 8 * (l.length : Int) < (at' : Int) + n) (hl : l.length ≤ 140737488355328) (ha : at' ≤ 8 * l.length) :
    Calls Try.prog 24 #[.pointer (some ⟨rb, 0, none⟩), .int .i64 n] w fun e w' => e = .returned (.int .u64 0) ∧ RdIs w' B rb l at' 3 ∧ Mod (fun k => k = rb) w w' := by
  have H := Lib.hid h; clear h
  have HL := Lib.hid hl
  have HA := Lib.hid ha
  have hleft : leftI l at' 0 < n := by rw [leftI_zero]; omega
  generalize hlf : leftI l at' 0 = lf at hleft
  have HLF := Lib.hid hlf
  clear hlf hf hl ha
  go_enter Try.func24, Try.ntmps24
  go_wp2_with fail
  refine (rerr_c rb B l at' 0 w H.out).mono ?_
  rintro e w1 ⟨rfl, rfl⟩
  go_wp2_with fail
  refine (rleft_c rb B l at' 0 w H.out HL.out HA.out).mono ?_
  rintro e w1 ⟨rfl, nd, rfl⟩
  rw [HLF.out]
  have H' := Lib.hid (H.out.ext ((Ext.refl w).drewN nd))
  have c3 := H'.out.c3
  have f3 := H'.out.fz 3
  go_wp2
  go_ret
  exact ⟨rfl, H'.out.setErr 3, Mod.setCell (F := fun k => k = rb) (p := ⟨rb, 3, none⟩) ((Ext.refl w).drewN nd).mod (fun _ => rfl) _⟩

/-- What a Get answers, and what stays. -/
def getV (l : List UInt8) (at' : Nat) (err n : Int) : Nat := if err = 0 ∧ 0 ≤ n ∧ n ≤ 64 ∧ (at' : Int) + n ≤ 8 * (l.length : Int) then val (bitsFrom l at' n.toNat) else 0
def getAt (l : List UInt8) (at' : Nat) (err n : Int) : Nat := if err = 0 ∧ 0 ≤ n ∧ n ≤ 64 ∧ (at' : Int) + n ≤ 8 * (l.length : Int) then at' + n.toNat else at'
def getE (l : List UInt8) (at' : Nat) (err n : Int) : Int := if err ≠ 0 then err else if n < 0 ∨ 64 < n then 2 else if 8 * (l.length : Int) < (at' : Int) + n then 3 else 0
theorem rget_c (rb B : Nat) (l : List UInt8) (at' : Nat) (err n : Int) (w : World) (h : RdIs w B rb l at' err) (hl : l.length ≤ 140737488355328) (ha : at' ≤ 8 * l.length) :
    Calls Try.prog 24 #[.pointer (some ⟨rb, 0, none⟩), .int .i64 n] w fun e w' => e = .returned (.int .u64 (getV l at' err n : Int)) ∧ RdIs w' B rb l (getAt l at' err n) (getE l at' err n) ∧ Mod (fun k => k = rb) w w' := by
  by_cases h0 : err = 0
  · subst h0
    by_cases h1 : n < 0 ∨ 64 < n
    · have e : ¬ ((0 : Int) = 0 ∧ 0 ≤ n ∧ n ≤ 64 ∧ (at' : Int) + n ≤ 8 * (l.length : Int)) := by omega
      rw [getV, getAt, getE, if_neg e, if_neg e, if_neg (by simp), if_pos h1]
      exact rget_arg rb B l at' n w h h1
    · by_cases h2 : 8 * (l.length : Int) < (at' : Int) + n
      · have e : ¬ ((0 : Int) = 0 ∧ 0 ≤ n ∧ n ≤ 64 ∧ (at' : Int) + n ≤ 8 * (l.length : Int)) := by omega
        rw [getV, getAt, getE, if_neg e, if_neg e, if_neg (by simp), if_neg h1, if_pos h2]
        exact rget_short rb B l at' n w h (by omega) (by omega) h2 hl ha
      · have e : ((0 : Int) = 0 ∧ 0 ≤ n ∧ n ≤ 64 ∧ (at' : Int) + n ≤ 8 * (l.length : Int)) := by omega
        rw [getV, getAt, getE, if_pos e, if_pos e, if_neg (by simp), if_neg h1, if_neg h2]
        obtain ⟨m, rfl⟩ := Int.eq_ofNat_of_zero_le (show 0 ≤ n by omega)
        rw [Int.toNat_natCast]
        exact rget_ok rb B l at' m w h (by omega) (by omega) hl
  · have e : ¬ (err = 0 ∧ 0 ≤ n ∧ n ≤ 64 ∧ (at' : Int) + n ≤ 8 * (l.length : Int)) := by omega
    rw [getV, getAt, getE, if_neg e, if_neg e, if_pos h0]
    refine (rget_err rb B l at' err n w h h0).mono ?_
    rintro e w' ⟨h1, rfl⟩
    exact ⟨h1, h, Mod.refl _ w⟩

theorem WrIs.fge {w : World} {B wb : Nat} {l : List Bool} {err : Int} (h : WrIs w B wb l err) : ∀ k, WrF w wb k → B ≤ k := by
  obtain ⟨ao, cap, h1, h2, h3⟩ := h
  rintro k (rfl | ⟨v, q1, q2⟩)
  · exact h2
  · rw [cell_of_blk h1] at q1
    simp only [List.size_toArray, List.getElem?_toArray, List.getElem?_cons_succ, List.getElem?_cons_zero, Option.some.injEq] at q1
    subst q1
    exact (owns_block h3 q2).1
theorem WrIs.below {w w' : World} {B wb : Nat} {l : List Bool} {err : Int} (h : WrIs w B wb l err) (hm : WrMod wb w w') : Below B w w' :=
  hm.1.below (by obtain ⟨_, _, h1, h2, _⟩ := h; have := (Array.getElem?_eq_some_iff.1 h1).1; omega) h.fge
theorem RdIs.below {w w' : World} {B rb : Nat} {l : List UInt8} {at' : Nat} {err : Int} (h : RdIs w B rb l at' err) (hm : Mod (fun k => k = rb) w w') : Below B w w' :=
  hm.below (by have := h.lt; obtain ⟨_, _, _, h2, _⟩ := h; omega) fun k hk => by obtain ⟨_, _, _, h2, _⟩ := h; omega

set_option maxHeartbeats 2000000 in
theorem lives_c (w : World) : Calls Try.prog 17 #[] w fun e w' => e = .returned (.bool true) ∧ Ext w w' := by
  go_enter Try.func17, Try.ntmps17
  go_wp2_with fail
  refine (wnew_c w.heap.size w (Nat.le_refl _)).mono ?_
  rintro e w1 ⟨wb, rfl, hwb, hx1, h1⟩
  have HX1 := Lib.hid hx1
  have H1 := Lib.hid h1
  have HWB := Lib.hid hwb
  clear hx1 h1 hwb
  go_wp2_with fail
  refine (put_ok wb w.heap.size [] 5 3 w1 H1.out (by decide) (by decide) (by decide)).mono ?_
  rintro e w2 ⟨rfl, h2, hm2⟩
  have H2 := Lib.hid h2
  have HM2 := Lib.hid hm2
  clear h2 hm2
  go_wp2_with fail
  refine (put_ok wb w.heap.size _ 1 2 w2 H2.out (by decide) (by decide) (by decide)).mono ?_
  rintro e w3 ⟨rfl, h3, hm3⟩
  have H3 := Lib.hid h3
  have HM3 := Lib.hid hm3
  clear h3 hm3
  go_wp2_with fail
  have hd := done_ok wb w.heap.size _ w3 H3.out (by decide)
  rw [show packed ([] ++ bitsOf 5 3 ++ bitsOf 1 2) = [168] by decide] at hd
  refine hd.mono ?_
  rintro e w4 ⟨ao, cap, rfl, hx4, hown⟩
  obtain ⟨g, cap', he, hg1, hg2⟩ := World.ownsRow.form hown (by decide)
  simp only [List.length_singleton, Value.slice.injEq] at he
  obtain ⟨rfl, _, rfl⟩ := he
  have cg : w4.cell? ⟨g, 0, none⟩ = some (.int .u8 168) := by
    have := World.ownsRow.cellAt hown 0 (by decide)
    rw [this]; rfl
  have HB : Hid (Bs w4 (.slice (some ⟨g, 0, none⟩) 1 cap) [168]) := Lib.hid (Rs.of_owns hown)
  have HX4 : Hid (Below w.heap.size w w4) := Lib.hid ((((HX1.out.below.trans (H1.out.below HM2.out)).trans (H2.out.below HM3.out)).trans (hx4.below.mono (by have := H3.out.lt; obtain ⟨_, _, _, h5, _⟩ := H3.out; omega))))
  clear hd hx4 hown hg1 hg2
  go_wp2_with fail
  refine (ropen_c _ [168] w4 HB.out (by decide)).mono ?_
  rintro e w5 ⟨rb, rfl, hrb, hx5, h5⟩
  have H5 := Lib.hid h5
  have HX5 := Lib.hid hx5
  clear h5 hx5 hrb
  go_wp2_with fail
  refine (rget_ok rb w4.heap.size [168] 0 3 w5 H5.out (by decide) (by decide) (by decide)).mono ?_
  rw [show val (bitsFrom [168] 0 3) = 5 by decide]
  rintro e w6 ⟨rfl, h6, hm6⟩
  have H6 := Lib.hid (H5.out.below hm6)
  clear h6 hm6
  go_wp2
  go_ret
  exact ⟨rfl, Ext.of_below (HX4.out.trans ((HX5.out.below.trans H6.out).mono HX4.out.size))⟩

end Go.Proofs.Ytlfnpbpbgncbpaa
