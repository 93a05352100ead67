/- What a net holds; contracts of New, Send, Len. -/
import Derived.Test.YthekjoahlaifgaaN2
import Derived.Test.YthekjoahlaifgaaG0


set_option linter.unusedVariables false
set_option linter.unusedSimpArgs false
namespace Go.Proofs.Ythekjoahlaifgaa
open Go.RowKit

/-- A net of the program: packets in a row of its own, each packet's bytes in a row of its own, from B on; the bytes' rows are among F. -/
def NetIs (w : World) (B : Nat) (F : Nat → Prop) (bn : Nat) (l : List (Int × List UInt8)) : Prop :=
  ∃ ao cap bs, w.heap[bn]? = some (.cells #[.slice ao l.length cap] 60 (0, 0)) ∧ B ≤ bn ∧
    w.ownsRow B 34 2 (.slice ao l.length cap) l.length (pkCells l bs) ∧ BsOwn w B F l bs

theorem etPk : ElemT Try.prog 58 34 2 32 := ElemT.mk' Try.underlying58 (z := .agg #[.int .i64 0, .slice none 0 0]) (by kernel_rfl) rfl (by decide)

theorem NetIs.keep {w w' : World} {B : Nat} {F : Nat → Prop} {bn : Nat} {l : List (Int × List UInt8)} (h : NetIs w B F bn l)
    (hk : ∀ k, B ≤ k → k < w.heap.size → (∃ c t fr, w.heap[k]? = some (.cells c t fr) ∧ (t ∈ [60, 34] ∨ (t = 5 ∧ F k))) → w'.heap[k]? = w.heap[k]?) : NetIs w' B F bn l := by
  obtain ⟨ao, cap, bs, h1, h2, h4, h6⟩ := h
  refine ⟨ao, cap, bs, (hk bn h2 (Array.getElem?_eq_some_iff.1 h1).1 ⟨_, _, _, h1, .inl (by simp)⟩).trans h1, h2, owns_keep h4 fun k hkb hl => ?_, BsOwn.keep h6 fun k h1 h2 h3 ⟨c, fr, h4⟩ => hk k h1 h3 ⟨c, _, fr, h4, .inr ⟨rfl, h2⟩⟩⟩
  refine hk k (owns_block h4 hkb).1 hl ?_
  rcases h4.2 with ⟨hn, _⟩ | ⟨g, cap, cur, hn, hb, hgg, rest⟩
  · rw [hn] at hkb; cases hkb
  · rw [hn] at hkb; cases hkb; exact ⟨_, _, _, hgg, .inl (by simp)⟩
theorem NetIs.ext {w w' : World} {B : Nat} {F : Nat → Prop} {bn : Nat} {l : List (Int × List UInt8)} (h : NetIs w B F bn l) (hx : Ext w w') : NetIs w' B F bn l :=
  h.keep fun k _ hl _ => hx.block k hl id
theorem NetIs.mono {w : World} {B : Nat} {F F' : Nat → Prop} {bn : Nat} {l : List (Int × List UInt8)} (h : NetIs w B F bn l) (hT : ∀ k, F k → F' k) : NetIs w B F' bn l := by
  obtain ⟨ao, cap, bs, h1, h2, h4, h6⟩ := h
  exact ⟨ao, cap, bs, h1, h2, h4, BsOwn.mono hT h6⟩
theorem BsOwn.top {w : World} {B : Nat} {F : Nat → Prop} : ∀ {l : List (Int × List UInt8)} {bs : List Value}, BsOwn w B F l bs → BsOwn w B (fun k => F k ∧ k < w.heap.size) l bs
  | [], [], _ => trivial
  | p :: l, b :: bs, h => ⟨⟨h.1.1, h.1.2.1, fun k hk => ⟨h.1.2.2 k hk, owns_under h.1.2.1 k hk⟩⟩, BsOwn.top h.2⟩
  | [], _ :: _, h => h.elim
  | _ :: _, [], h => h.elim
theorem NetIs.top {w : World} {B : Nat} {F : Nat → Prop} {bn : Nat} {l : List (Int × List UInt8)} (h : NetIs w B F bn l) : NetIs w B (fun k => F k ∧ k < w.heap.size) bn l := by
  obtain ⟨ao, cap, bs, h1, h2, h4, h6⟩ := h
  exact ⟨ao, cap, bs, h1, h2, h4, h6.top⟩

def sendE (to : Int) (l : List (Int × List UInt8)) : Int := if to < 0 ∨ 8 < to then 2 else if 256 ≤ l.length then 8 else 0
def sendL (to : Int) (b : List UInt8) (l : List (Int × List UInt8)) : List (Int × List UInt8) := if to < 0 ∨ 8 < to then l else if 256 ≤ l.length then l else l ++ [(to, b)]

set_option maxHeartbeats 400000 in
theorem new_c (w : World) : Calls Try.prog 6 #[] w fun e w' => ∃ bn, e = .returned (.pointer (some ⟨bn, 0, none⟩)) ∧ Ext w w' ∧ NetIs w' w.heap.size (fun _ => False) bn [] := by
  go_enter Try.func6, Try.ntmps6
  go_wp2
  go_ret
  refine ⟨w.heap.size, rfl, (Ext.refl w).alloc _, none, 0, [], ?_, Nat.le_refl _, World.ownsRow_nil _ _ _ _, trivial⟩
  exact heap_alloc_new w _

theorem cell_of_block {w : World} {k : Nat} {c : Array Value} {t : TypeId} {fr : Nat × Nat} (h : w.heap[k]? = some (.cells c t fr)) (j : Nat) : w.cell? ⟨k, j, none⟩ = c[j]? := by
  simp [World.cell?, h]
theorem frozen_of_block {w : World} {k : Nat} {c : Array Value} {t : TypeId} (h : w.heap[k]? = some (.cells c t (0, 0))) (j : Nat) : w.frozen? ⟨k, j, none⟩ = false := by
  simp [World.frozen?, h]

set_option maxRecDepth 100000 in
set_option maxHeartbeats 400000 in
theorem send_c (bn B : Nat) (F : Nat → Prop) (l : List (Int × List UInt8)) (to : Int) (ao : Option Addr) (cap : Nat) (b : List UInt8) (w : World) (h : NetIs w B F bn l) (hb : Bs w (.slice ao b.length cap) b)
    (hbl : b.length ≤ 1000000000) (hBw : B ≤ w.heap.size) (hl : l.length ≤ 100000) :
    Calls Try.prog 8 #[.pointer (some ⟨bn, 0, none⟩), .agg #[.int .i64 to, .slice ao b.length cap]] w
      fun e w' => e = .returned (.int .i64 (sendE to l)) ∧ Mod (TyF w B [60, 34]) w w' ∧ NetIs w' B (fun k => F k ∨ w.heap.size ≤ k) bn (sendL to b l) := by
  obtain ⟨ln, hln⟩ : ∃ n, n = l.length := ⟨_, rfl⟩
  have h' := h
  obtain ⟨no, ncap, bs, n1, n2, n4, n6⟩ := h'
  have c0 := cell_of_block n1 0
  simp only [List.getElem?_toArray, List.getElem?_cons_zero] at c0
  have hbn : bn < w.heap.size := (Array.getElem?_eq_some_iff.1 n1).1
  rw [← hln] at c0 hl n4
  have c1 := ((Ext.refl w).alloc (.cells #[.int .i64 to, .slice ao b.length cap] 34)).cell c0
  have HN := Lib.hid h; clear h
  have HB := Lib.hid hb; clear hb
  have N1 := Lib.hid n1; clear n1
  have N4 := Lib.hid n4; clear n4
  have N6 := Lib.hid n6; clear n6
  have HL := Lib.hid hln; clear hln
  by_cases h1 : to < 0
  · go_enter Try.func8, Try.ntmps8
    go_wp2
    go_ret
    have hx := (Ext.refl w).alloc (.cells #[.int .i64 to, .slice ao b.length cap] 34)
    exact ⟨by simp [sendE, h1], hx.mod, by simp only [sendL, h1, true_or, if_true]; exact (HN.out.ext hx).mono fun _ h => .inl h⟩
  · by_cases h2 : 8 < to
    · go_enter Try.func8, Try.ntmps8
      go_wp2
      go_ret
      have hx := (Ext.refl w).alloc (.cells #[.int .i64 to, .slice ao b.length cap] 34)
      exact ⟨by simp [sendE, h2], hx.mod, by simp only [sendL, h2, or_true, if_true]; exact (HN.out.ext hx).mono fun _ h => .inl h⟩
    · by_cases h3 : 256 ≤ ln
      · go_enter Try.func8, Try.ntmps8
        go_wp2
        go_outline
        go_ret
        have hx := (Ext.refl w).alloc (.cells #[.int .i64 to, .slice ao b.length cap] 34)
        have h3' : 256 ≤ l.length := by rw [← HL.out]; exact h3
        exact ⟨by simp [sendE, h1, h2, h3'], hx.mod, by simp only [sendL, h1, h2, h3', or_self, if_true, ite_self, if_false]; exact (HN.out.ext hx).mono fun _ h => .inl h⟩
      · go_enter Try.func8, Try.ntmps8
        have hnb : ¬ (Value.slice no ln ncap).ownBlock = some bn := owns_ne_block N4.out N1.out (by decide)
        have hnx : ¬ (Value.slice no ln ncap).ownBlock = some w.heap.size := fun h => by have := (owns_block N4.out h).2; omega
        have cb0 : (w.alloc (.cells #[.int .i64 to, .slice ao b.length cap] 34)).cell? ⟨w.heap.size, 0, none⟩ = some (.int .i64 to) := by simp
        have cb1 : (w.alloc (.cells #[.int .i64 to, .slice ao b.length cap] 34)).cell? ⟨w.heap.size, 1, none⟩ = some (.slice ao b.length cap) := by simp
        have hxa := (Ext.refl w).alloc (.cells #[.int .i64 to, .slice ao b.length cap] 34)
        have hw1 : (w.alloc (.cells #[.int .i64 to, .slice ao b.length cap] 34)).heap.size = w.heap.size + 1 := by simp
        have HXA := Lib.hid hxa; clear hxa
        go_wp2_with fail
        refine wp_region_rg1 9 8
          (fun ph w' => Mod (fun k => (Value.slice no ln ncap).ownBlock = some k) (w.alloc (.cells #[.int .i64 to, .slice ao b.length cap] 34)) w' ∧
            (ph = false → Ext (w.alloc (.cells #[.int .i64 to, .slice ao b.length cap] 34)) w'))
          Ext
          (vlist [ex (.pointer (some ⟨bn, 0, none⟩)), ex (.pointer (some ⟨bn, 0, none⟩)), ex (.pointer (some ⟨bn, 0, none⟩)), ex (.pointer (some ⟨bn, 0, none⟩)), ex (.slice no ln ncap), ex (.agg #[.int .i64 to, .slice ao b.length cap]),
            (fun v w' => ∃ o2 c2, v = .agg #[.int .i64 to, .slice o2 b.length c2] ∧ w'.ownsRow (w.heap.size + 1) 5 1 (.slice o2 b.length c2) b.length (b.map bv)),
            (fun v w' => ∃ g o2 c2, v = .slice (some ⟨g, 0, none⟩) 1 1 ∧ w'.ownsRow (w.heap.size + 1) 34 2 (.slice (some ⟨g, 0, none⟩) 1 1) 1 [.int .i64 to, .slice o2 b.length c2] ∧
              w'.ownsRow (w.heap.size + 1) 5 1 (.slice o2 b.length c2) b.length (b.map bv)),
            (fun v w' => ∃ ao' c' o2 c2, v = .slice ao' (ln + 1) c' ∧ w'.ownsRow B 34 2 (.slice ao' (ln + 1) c') (ln + 1) (pkCells l bs ++ [.int .i64 to, .slice o2 b.length c2]) ∧
              w'.ownsRow (w.heap.size + 1) 5 1 (.slice o2 b.length c2) b.length (b.map bv))])
          (by kernel_rfl) (by kernel_rfl) ⟨(Ext.refl _).drew.mod, fun _ => (Ext.refl _).drew⟩ (fun _ w' _ => Ext.refl w') (fun _ _ _ h hx => ⟨h.1.ext hx, fun hb => (h.2 hb).trans hx⟩) ?_ ?_ ?_
        · refine fun _ i v w1 w2 _ _ hV hx => StL.vlist (R := Ext) ?_ i v w1 w2 hV hx
          exact ⟨ex_st, ex_st, ex_st, ex_st, ex_st, ex_st, fun _ _ _ ⟨o2, c2, e1, e2⟩ hx => ⟨o2, c2, e1, owns_ext e2 hx⟩, fun _ _ _ ⟨g, o2, c2, e1, e2, e3⟩ hx => ⟨g, o2, c2, e1, owns_ext e2 hx, owns_ext e3 hx⟩,
            fun _ _ _ ⟨a', c', o2, c2, e1, e2, e3⟩ hx => ⟨a', c', o2, c2, e1, owns_ext e2 hx, owns_ext e3 hx⟩, trivial⟩
        · simp only [List.take_succ_cons, List.take_zero]
          refine RgOps.mk (RgOp.plain (by decide) rfl ?_) ?_
          rotate_left
          refine RgOps.mk (RgOp.plain (by decide) rfl ?_) ?_
          rotate_left
          refine RgOps.mk (RgOp.plain (by decide) rfl ?_) ?_
          rotate_left
          refine RgOps.mk (RgOp.plain (by decide) rfl ?_) ?_
          rotate_left
          refine RgOps.mk (RgOp.plain (by decide) rfl ?_) ?_
          rotate_left
          refine RgOps.mk (RgOp.plain (by decide) rfl ?_) ?_
          rotate_left
          refine RgOps.mk (RgOp.plain (by decide) rfl ?_) ?_
          rotate_left
          refine RgOps.mk (RgOp.plain (by decide) rfl ?_) ?_
          rotate_left
          refine RgOps.mk (RgOp.special rfl rfl ?_) ?_
          rotate_left
          exact RgOps.done
          · intro ph vals w' _ hC hd; simp [Deps, vlist, ex, Region.binds] at hd; have q0 := hC.1.cell c1 hnb; have q1 := hC.1.cell cb0 hnx; have q2 := hC.1.cell cb1 hnx; clear hC; go_simp; exact Ext.refl _
          · intro ph vals w' _ hC hd; simp [Deps, vlist, ex, Region.binds] at hd; have q0 := hC.1.cell c1 hnb; have q1 := hC.1.cell cb0 hnx; have q2 := hC.1.cell cb1 hnx; clear hC; go_simp; exact Ext.refl _
          · intro ph vals w' _ hC hd; simp [Deps, vlist, ex, Region.binds] at hd; have q0 := hC.1.cell c1 hnb; have q1 := hC.1.cell cb0 hnx; have q2 := hC.1.cell cb1 hnx; clear hC; go_simp; exact Ext.refl _
          · intro ph vals w' _ hC hd; simp [Deps, vlist, ex, Region.binds] at hd; have q0 := hC.1.cell c1 hnb; have q1 := hC.1.cell cb0 hnx; have q2 := hC.1.cell cb1 hnx; clear hC; go_simp; exact Ext.refl _
          · intro ph vals w' _ hC hd; simp [Deps, vlist, ex, Region.binds] at hd; have q0 := hC.1.cell c1 hnb; have q1 := hC.1.cell cb0 hnx; have q2 := hC.1.cell cb1 hnx; clear hC; go_simp; exact Ext.refl _
          · intro ph vals w' _ hC hd; simp [Deps, vlist, ex, Region.binds] at hd; have q0 := hC.1.cell c1 hnb; have q1 := hC.1.cell cb0 hnx; have q2 := hC.1.cell cb1 hnx; clear hC; go_simp; exact Ext.refl _
          · intro ph vals w' hph hC hd
            simp [Deps, vlist, ex, Region.binds] at hd
            have hph' : ph = false := by cases ph with | false => rfl | true => exact absurd rfl (hph rfl _ rfl ⟨6, .chain⟩ (by simp) rfl)
            have hB2 : Bs w' (.slice ao b.length cap) b := HB.out.ext (HXA.out.trans (hC.2 hph'))
            clear hph
            have hsz := hC.1.size
            clear hC
            go_simp
            refine (copied_c to _ b w' hB2 (by omega)).mono ?_
            rintro e w'' ⟨o2, c2, rfl, hx, hown⟩
            exact ⟨_, rfl, hx, o2, c2, rfl, owns_base hown (by simp at hsz; omega)⟩
          · intro ph vals w' _ hC hd
            simp [Deps, vlist, ex, Region.binds] at hd
            have hsz := hC.1.size
            clear hC
            obtain ⟨o2, c2, hd1, hd2⟩ := hd
            go_simp
            have hx := (Ext.refl w').alloc (.cells #[.int .i64 to, .slice o2 b.length c2] 34)
            exact ⟨hx, o2, c2, owns_lit rfl (by simp at hsz; omega) (by decide), owns_ext hd2 hx⟩
          · intro vals w' hC hd
            simp [Deps, vlist, ex, Region.binds] at hd
            obtain ⟨hd4, ⟨g, hd7, o2, c2, ho7, hob⟩, _⟩ := hd
            have hx := hC.2 rfl
            have hown := owns_ext N4.out (HXA.out.trans hx)
            have hsz := hC.1.size
            have hne7 : ∀ k, (Value.slice no ln ncap).ownBlock = some k → (Value.slice (some ⟨g, 0, none⟩) 1 1).ownBlock ≠ some k := fun k hk hk' => by
              have h1 := (owns_block N4.out hk).2; have h2 := (owns_block ho7 hk').1; omega
            have hneb : ∀ k, (Value.slice no ln ncap).ownBlock = some k → (Value.slice o2 b.length c2).ownBlock ≠ some k := fun k hk => owns_ne hown hob (by decide) hk
            refine gives_app (.tmp 28) (.tmp 31) 58 rfl etPk B (by go_simp) hown (by go_simp) (Rs.of_owns ho7) (by simp [Value.oneCell']) (by omega) (by omega) (by simp at hsz; omega) fun v' w'' h1 h2 => ?_
            have hm := Mod.grown_row h2
            obtain ⟨a', c', rfl⟩ := owns_shape h1
            have hob' := owns_mod hob hm fun k hk hk' => hneb k hk' hk
            have ho7' := owns_mod ho7 hm fun k hk hk' => hne7 k hk' hk
            refine ⟨⟨hx.mod.trans hm fun k hk _ => hk, fun h => by cases h⟩, ⟨a', c', o2, c2, rfl, h1, hob'⟩, fun j hj hne u hu => StLx.vlist (R := fun a b => a = w' ∧ b = w'') (k := 8) ?_ j u w' w'' hne hu ⟨rfl, rfl⟩⟩
            refine ⟨ex_st, ex_st, ex_st, ex_st, ex_st, ex_st, ?_, ?_, trivial⟩
            · rintro _ _ _ ⟨o2, c2, e1, e2⟩ ⟨rfl, rfl⟩
              exact ⟨o2, c2, e1, owns_mod e2 hm fun k hk hk' => owns_ne hown e2 (by decide) hk' hk⟩
            · rintro _ _ _ ⟨g, o2, c2, e1, e2, e3⟩ ⟨rfl, rfl⟩
              exact ⟨g, o2, c2, e1, owns_mod e2 hm fun k hk hk' => by have h1 := (owns_block N4.out hk').2; have h2 := (owns_block e2 hk).1; omega, owns_mod e3 hm fun k hk hk' => owns_ne hown e3 (by decide) hk' hk⟩
        · intro vals w' hC hV
          have e0 := hV 0 (by decide)
          have e4 := hV 4 (by decide)
          have e8 := hV 8 (by decide)
          simp only [vlist, ex, List.getD_cons_zero, List.getD_cons_succ] at e0 e4 e8
          obtain ⟨a', c', o2, c2, e8, ho, hob⟩ := e8
          have hm := hC.1
          have q0 := hm.cell c1 hnb
          have q1 := hm.frozen (p := ⟨bn, 0, none⟩) (b := false) (by simp; omega) hnb (by rw [World.frozen?_alloc_old _ _ _ (by simp; omega)]; exact frozen_of_block N1.out 0)
          clear hC hV
          simp only [List.drop_succ_cons, List.drop_zero]
          go_wp2
          go_ret
          have hE : sendE to l = 0 := by unfold sendE; rw [if_neg (by omega), if_neg (by rw [← HL.out]; omega)]
          have hS : sendL to b l = l ++ [(to, b)] := by unfold sendL; rw [if_neg (by omega), if_neg (by rw [← HL.out]; omega)]
          have hM : Mod (TyF w B [60, 34]) w (w'.setCell ⟨bn, 0, none⟩ (.slice a' (ln + 1) c')) :=
            Mod.setCell (Mod.trans HXA.out.mod hm fun k hk hl => owns_in_tyF N4.out (by decide) hk) (fun _ => ⟨n2, _, _, _, N1.out, by decide⟩) _
          have hlen : (l ++ [(to, b)]).length = ln + 1 := by rw [List.length_append, ← HL.out]; rfl
          have hbn' : w'.heap[bn]? = some (.cells #[.slice no l.length ncap] 60 (0, 0)) := by
            rw [hm.block bn (by rw [hw1]; omega) hnb, Below.heap_alloc _ _ _ hbn]; exact N1.out
          have hbnx : (Value.slice a' (ln + 1) c').ownBlock ≠ some bn := owns_ne_block ho hbn' (by decide)
          have hbny : (Value.slice o2 b.length c2).ownBlock ≠ some bn := owns_ne_block hob hbn' (by decide)
          refine ⟨by rw [hE]; rfl, hM, ?_⟩
          rw [hS]
          refine ⟨a', c', bs ++ [.slice o2 b.length c2], by rw [hlen]; exact setCell_one hbn', n2, ?_, ?_⟩
          · rw [pkCells_append _ _ N6.out.length, hlen]
            exact owns_setCell ho hbnx
          · refine BsOwn.append (BsOwn.mono (fun _ h => .inl h) (BsOwn.keep N6.out fun k hk1 _ hk2 ⟨c, fr, hk3⟩ => ?_)) ⟨⟨⟨o2, c2, rfl⟩, owns_base (owns_setCell hob hbny) (by omega), fun k hk => .inr (by have := (owns_block hob hk).1; omega)⟩, trivial⟩
            exact hM.block k hk2 (tyF_not hk3 (by decide))

end Go.Proofs.Ythekjoahlaifgaa
