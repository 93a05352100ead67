/- net: Len; the law's lives. -/
import Derived.Test.YthekjoahlaifgaaN6

set_option linter.unusedVariables false
set_option linter.unusedSimpArgs false
namespace Go.Proofs.Ythekjoahlaifgaa
open Go.RowKit

set_option maxRecDepth 100000 in
set_option maxHeartbeats 400000 in
theorem len_c (bn B : Nat) (F : Nat → Prop) (l : List (Int × List UInt8)) (w : World) (h : NetIs w B F bn l) :
    Calls Try.prog 23 #[.pointer (some ⟨bn, 0, none⟩)] w fun e w' => e = .returned (.int .i64 l.length) ∧ w = w' := by
  obtain ⟨no, ncap, bs, hbn, c0, _⟩ := h.open
  clear h
  go_enter Try.func23, Try.ntmps23
  go_wp2
  go_ret
  exact ⟨rfl, rfl⟩

set_option maxRecDepth 100000 in
set_option maxHeartbeats 1000000 in
theorem lives_c (w : World) : Calls Try.prog 14 #[] w fun e w' => e = .returned (.bool true) ∧ Ext w w' := by
  go_enter Try.func14, Try.ntmps14
  go_wp2_with fail
  refine (new_c _).mono ?_
  rintro e w1 ⟨bn, rfl, hx1, hn1⟩
  go_wp2_with fail
  have hx2 := (Ext.refl w1).alloc (.cells #[.int .u8 7] 5)
  have hs1 := hx1.size
  have hs2 := hx2.size
  have hb : Bs (w1.alloc (.cells #[.int .u8 7] 5)) (.slice (some ⟨w1.heap.size, 0, none⟩) 1 1) [7] :=
    Rs.of_owns (owns_lit (B := 0) (e := 5) (size := 1) (n := 1) rfl (Nat.zero_le _) (by decide))
  refine (send_c bn w.heap.size _ [] 1 _ 1 [7] _ (hn1.ext hx2) hb (by simp) (by omega) (by simp)).mono ?_
  rintro e w2 ⟨he, hm2, hn2⟩
  have e1 : sendE 1 [] = 0 := rfl
  rw [e1] at he
  subst he
  have hs3 := hm2.size
  go_wp2_with fail
  refine (take_yes bn w.heap.size _ (sendL 1 [7] []) 0 (1, [7]) _ hn2 rfl (by simp) (by decide)).mono ?_
  rintro e w3 ⟨ao, cap, rfl, hm3, hn3, hob⟩
  have hx4 := (Ext.refl w3).alloc (.cells #[.int .i64 1, .slice ao 1 cap] 34)
  go_wp2_with fail
  refine (len_c bn w.heap.size _ _ _ (hn3.ext hx4)).mono ?_
  rintro e w4 ⟨he, rfl⟩
  have e2 : (.int .i64 ((List.eraseIdx (sendL 1 [7] []) 0).length) : Value) = .int .i64 0 := rfl
  rw [e2] at he
  subst he
  go_wp2
  go_ret
  refine ⟨rfl, ?_⟩
  have h13 : Mod (TyF w1 w.heap.size [60, 34]) w1 w3 := tyF_trans (tyF_ext_l hx2 hm2) hm3
  refine (Ext.of_below ?_)
  exact ((hx1.below).trans ((h13.below (by omega) fun _ h => h.1))).trans (hx4.below.mono (by have := hm3.size; omega))

end Go.Proofs.Ythekjoahlaifgaa
