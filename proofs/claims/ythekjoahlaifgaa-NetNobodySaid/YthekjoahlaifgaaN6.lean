/- Contracts of net: Take, Drop, Copy. -/
import Derived.Test.YthekjoahlaifgaaN5

set_option linter.unusedVariables false
set_option linter.unusedSimpArgs false
namespace Go.Proofs.Ythekjoahlaifgaa
open Go.RowKit

set_option maxRecDepth 100000 in
set_option maxHeartbeats 400000 in
theorem take_no (bn B : Nat) (F : Nat → Prop) (l : List (Int × List UInt8)) (i : Int) (w : World) (h : NetIs w B F bn l) (hi : i < 0 ∨ (l.length : Int) ≤ i) :
    Calls Try.prog 10 #[.pointer (some ⟨bn, 0, none⟩), .int .i64 i] w
      fun e w' => e = .returned (.tuple #[.agg #[.int .i64 0, .slice none 0 0], .int .i64 11]) ∧ Ext w w' := by
  have H := Lib.hid h; clear h
  have HI := Lib.hid hi; clear hi
  go_enter Try.func10, Try.ntmps10
  go_wp2_with (go_at_call 17; refine (at_no bn B F l i _ (H.out.ext ((Ext.refl w).alloc _)) HI.out).mono ?_; rintro e w' ⟨rfl, hx⟩; have q0 := hx.cell (p := ⟨w.heap.size, 0, none⟩) (v := .int .i64 0) (by simp); have q1 := hx.cell (p := ⟨w.heap.size, 1, none⟩) (v := .slice none 0 0) (by simp); have q2 := hx.frozen (p := ⟨w.heap.size, 0, none⟩) (b := false) (by simp) (by simp); have q3 := hx.frozen (p := ⟨w.heap.size, 1, none⟩) (b := false) (by simp) (by simp); have q4 : w.heap.size < w'.heap.size := Nat.lt_of_lt_of_le (by simp) hx.size)
  refine bodyPost_ret (v := .tuple #[.agg #[.int .i64 0, .slice none 0 0], .int .i64 11]) (by simp [results, Try.results10, go_sem, q0, q1, q4]) rfl ⟨rfl, ?_⟩
  have hx' := ((Ext.refl w).alloc (.cells #[.int .i64 0, .slice none 0 0] 34)).trans hx
  first | exact ((hx'.alloc _).setCell (by simp) _).setCell (by simp) _ | exact (((hx'.setCell (Nat.le_refl _) _).setCell (Nat.le_refl _) _).alloc _) | exact (((hx'.alloc _).setCell (Nat.le_refl _) _).setCell (Nat.le_refl _) _)

set_option maxRecDepth 100000 in
set_option maxHeartbeats 400000 in
theorem take_yes (bn B : Nat) (F : Nat → Prop) (l : List (Int × List UInt8)) (k : Nat) (p : Int × List UInt8) (w : World) (h : NetIs w B F bn l) (hi : l[k]? = some p) (hp : p.2.length ≤ 140737488355328) (hl : l.length ≤ 140737488355328) :
    Calls Try.prog 10 #[.pointer (some ⟨bn, 0, none⟩), .int .i64 k] w
      fun e w' => ∃ ao cap, e = .returned (.tuple #[.agg #[.int .i64 p.1, .slice ao p.2.length cap], .int .i64 0]) ∧ Mod (TyF w B [60, 34]) w w' ∧
        NetIs w' B F bn (l.eraseIdx k) ∧ w'.ownsRow w.heap.size 5 1 (.slice ao p.2.length cap) p.2.length (p.2.map bv) := by
  obtain ⟨no, ncap, bs, hbn, c0, n1, n2, n4, n6⟩ := h.open
  have H := Lib.hid h; clear h
  have hk : k < l.length := (List.getElem?_eq_some_iff.1 hi).1
  have HI := Lib.hid hi; clear hi
  obtain ⟨g, rfl⟩ : ∃ g, no = some ⟨g, 0, none⟩ := by
    rcases n4.2 with ⟨hn, hn2⟩ | ⟨g, cap, cur, hn, _⟩
    · omega
    · simp only [Value.slice.injEq] at hn; exact ⟨_, hn.1⟩
  have hgb : ¬ bn = g := fun e => owns_ne_block n4 n1 (by decide) (by rw [e]; rfl)
  have hgw : g < w.heap.size := (owns_block n4 rfl).2
  have hg1 : ¬ w.heap.size = g := by omega
  have fz := frozen_of_block n1 0
  have FZ := Lib.hid fz; clear fz
  have N1 := Lib.hid n1; clear n1
  have N4 := Lib.hid n4; clear n4
  have N6 := Lib.hid n6; clear n6
  go_enter Try.func10, Try.ntmps10
  go_wp2_with (first
    | (go_at_call 17; refine (at_yes bn B F l k p _ (H.out.ext ((Ext.refl w).alloc _)) HI.out hp hl).mono ?_; rintro e w' ⟨ao, cap, rfl, hx, hob⟩; have q0 := hx.cell (p := ⟨w.heap.size, 0, none⟩) (v := .int .i64 0) (by simp); have q1 := hx.cell (p := ⟨w.heap.size, 1, none⟩) (v := .slice none 0 0) (by simp); have q2 := hx.frozen (p := ⟨w.heap.size, 0, none⟩) (b := false) (by simp) (by simp); have q3 := hx.frozen (p := ⟨w.heap.size, 1, none⟩) (b := false) (by simp) (by simp); have q4 : w.heap.size < w'.heap.size := Nat.lt_of_lt_of_le (by simp) hx.size; have hx1 := ((Ext.refl w).alloc (.cells #[.int .i64 0, .slice none 0 0] 34)).trans hx; have q5 := hx1.cell c0; have q6 : bn < w'.heap.size := by omega)
    | fail)
  refine (delete_c B g l.length ncap k (pkCells l bs) _ (owns_ext N4.out (hx1.alloc _)) hk hl (pkCells_one N6.out.one)).mono ?_
  rintro e w2 ⟨rfl, hm, hown2⟩
  have hg2 : ¬ w'.heap.size = g := by omega
  have r0 := hm.cell (p := ⟨bn, 0, none⟩) (v := .slice (some ⟨g, 0, none⟩) l.length ncap) (((Ext.refl _).alloc _).cell q5) hgb
  have r1 := hm.frozen (p := ⟨bn, 0, none⟩) (b := false) (by simp; omega) hgb (((Ext.refl _).alloc _).frozen q6 (hx1.frozen hbn FZ.out))
  have r2 := hm.cell (p := ⟨w.heap.size, 0, none⟩) (v := .int .i64 0) (((Ext.refl _).alloc _).cell q0) hg1
  have r3 := hm.cell (p := ⟨w.heap.size, 1, none⟩) (v := .slice none 0 0) (((Ext.refl _).alloc _).cell q1) hg1
  have r4 := hm.frozen (p := ⟨w.heap.size, 0, none⟩) (b := false) (by simp; omega) hg1 (((Ext.refl _).alloc _).frozen q4 q2)
  have r5 := hm.frozen (p := ⟨w.heap.size, 1, none⟩) (b := false) (by simp; omega) hg1 (((Ext.refl _).alloc _).frozen q4 q3)
  have r6 := hm.cell (p := ⟨w'.heap.size, 0, none⟩) (v := .int .i64 p.1) (by simp) hg2
  have r7 := hm.cell (p := ⟨w'.heap.size, 1, none⟩) (v := .slice ao p.2.length cap) (by simp) hg2
  have HM := Lib.hid hm; clear hm
  clear q0 q1 q2 q3 q5
  go_wp2
  have hsz := HM.out.size
  have hsz' : w'.heap.size + 1 ≤ w2.heap.size := by have : (w'.alloc (.cells #[.int .i64 p.1, .slice ao p.2.length cap] 34)).heap.size = w'.heap.size + 1 := by simp
                                                    omega
  have hM : Mod (TyF w B [60, 34]) w (((w2.setCell ⟨bn, 0, none⟩ (.slice (some ⟨g, 0, none⟩) (l.length - 1) ncap)).setCell ⟨w.heap.size, 0, none⟩ (.int .i64 p.1)).setCell ⟨w.heap.size, 1, none⟩ (.slice ao p.2.length cap)) :=
    Mod.setCell (Mod.setCell (Mod.setCell (Mod.trans (hx1.alloc _).mod HM.out fun j hj _ => hj ▸ owns_in_tyF N4.out (by decide) rfl) (fun _ => ⟨n2, _, _, _, N1.out, by decide⟩) _) (fun hl => absurd hl (Nat.lt_irrefl _)) _) (fun hl => absurd hl (Nat.lt_irrefl _)) _
  have hb2 : w2.heap[bn]? = some (.cells #[.slice (some ⟨g, 0, none⟩) l.length ncap] 60 (0, 0)) := by
    rw [HM.out.block bn (by simp; omega) hgb, Below.heap_alloc _ _ _ q6, hx1.block bn hbn id]; exact N1.out
  have hob2 : w2.ownsRow w.heap.size 5 1 (.slice ao p.2.length cap) p.2.length (p.2.map bv) :=
    owns_mod (owns_ext (owns_base hob (by simp)) ((Ext.refl _).alloc _)) HM.out fun j hj e => by subst e; exact owns_ne hob (owns_ext N4.out hx1) (by decide) hj rfl
  have hne1 : (Value.slice ao p.2.length cap).ownBlock ≠ some bn := owns_ne_block hob2 hb2 (by decide)
  have hne2 : (Value.slice ao p.2.length cap).ownBlock ≠ some w.heap.size := fun e => by have := (owns_block hob e).1; simp at this; omega
  have hgx : (Value.slice (some ⟨g, 0, none⟩) (l.length - 1) ncap).ownBlock ≠ some w.heap.size := fun e => hg1 (Option.some.inj e).symm
  have hgy : (Value.slice (some ⟨g, 0, none⟩) (l.length - 1) ncap).ownBlock ≠ some bn := fun e => hgb (Option.some.inj e).symm
  have hlen : (l.eraseIdx k).length = l.length - 1 := by rw [List.length_eraseIdx, if_pos hk]
  refine bodyPost_ret (v := .tuple #[.agg #[.int .i64 p.1, .slice ao p.2.length cap], .int .i64 0]) (by simp [results, Try.results10, go_sem, r2, r3]) rfl ⟨ao, cap, rfl, hM, ?_, owns_setCell (owns_setCell (owns_setCell hob2 hne1) hne2) hne2⟩
  refine ⟨some ⟨g, 0, none⟩, ncap, bs.take k ++ bs.drop (k + 1), ?_, n2, ?_, ?_⟩
  · rw [hlen, Below.heap_setCell _ _ _ _ (by simp; omega), Below.heap_setCell _ _ _ _ (by simp; omega)]
    exact setCell_one hb2
  · rw [hlen, List.eraseIdx_eq_take_drop_succ, pkCells_append _ _ (by simp [N6.out.length]), ← pkCells_take k N6.out.length, ← pkCells_drop (k + 1) N6.out.length]
    exact owns_setCell (owns_setCell (owns_setCell hown2 hgy) hgx) hgx
  · rw [List.eraseIdx_eq_take_drop_succ]
    have hk6 := BsOwn.keep N6.out fun j hj1 _ hj2 ⟨c, fr, hj3⟩ => hM.block j hj2 (tyF_not hj3 (by decide))
    exact BsOwn.append (hk6.take k) (hk6.drop (k + 1))

/-- What Take leaves, for every place. -/
theorem take_c (bn B : Nat) (F : Nat → Prop) (l : List (Int × List UInt8)) (i : Int) (w : World) (h : NetIs w B F bn l) (hp : ∀ p ∈ l, p.2.length ≤ 140737488355328) (hl : l.length ≤ 140737488355328) :
    Calls Try.prog 10 #[.pointer (some ⟨bn, 0, none⟩), .int .i64 i] w
      fun e w' => ∃ p ao cap er, e = .returned (.tuple #[.agg #[.int .i64 p.1, .slice ao p.2.length cap], .int .i64 er]) ∧ Mod (TyF w B [60, 34]) w w' ∧
        w'.ownsRow w.heap.size 5 1 (.slice ao p.2.length cap) p.2.length (p.2.map bv) ∧
        ((er = 0 ∧ ∃ k : Nat, i = k ∧ l[k]? = some p ∧ NetIs w' B F bn (l.eraseIdx k)) ∨ (er = 11 ∧ p = (0, []) ∧ (i < 0 ∨ (l.length : Int) ≤ i) ∧ NetIs w' B F bn l)) := by
  by_cases hi : i < 0 ∨ (l.length : Int) ≤ i
  · refine (take_no bn B F l i w h hi).mono ?_
    rintro e w' ⟨rfl, hx⟩
    exact ⟨(0, []), none, 0, 11, rfl, hx.mod, World.ownsRow_nil _ _ _ _, .inr ⟨rfl, rfl, hi, h.ext hx⟩⟩
  · obtain ⟨k, rfl⟩ := Int.eq_ofNat_of_zero_le (show 0 ≤ i by omega)
    have hk : k < l.length := by omega
    have hi' : l[k]? = some l[k] := List.getElem?_eq_getElem hk
    refine (take_yes bn B F l k l[k] w h hi' (hp _ (List.getElem_mem hk)) hl).mono ?_
    rintro e w' ⟨ao, cap, rfl, h1, h2, h3⟩
    exact ⟨l[k], ao, cap, 0, rfl, h1, h3, .inl ⟨rfl, k, rfl, hi', h2⟩⟩
theorem at_c (bn B : Nat) (F : Nat → Prop) (l : List (Int × List UInt8)) (i : Int) (w : World) (h : NetIs w B F bn l) (hp : ∀ p ∈ l, p.2.length ≤ 140737488355328) (hl : l.length ≤ 140737488355328) :
    Calls Try.prog 17 #[.pointer (some ⟨bn, 0, none⟩), .int .i64 i] w
      fun e w' => ∃ p ao cap er, e = .returned (.tuple #[.agg #[.int .i64 p.1, .slice ao p.2.length cap], .int .i64 er]) ∧ Ext w w' ∧
        w'.ownsRow w.heap.size 5 1 (.slice ao p.2.length cap) p.2.length (p.2.map bv) ∧
        ((er = 0 ∧ ∃ k : Nat, i = k ∧ l[k]? = some p) ∨ (er = 11 ∧ p = (0, []) ∧ (i < 0 ∨ (l.length : Int) ≤ i))) := by
  by_cases hi : i < 0 ∨ (l.length : Int) ≤ i
  · refine (at_no bn B F l i w h hi).mono ?_
    rintro e w' ⟨rfl, hx⟩
    exact ⟨(0, []), none, 0, 11, rfl, hx, World.ownsRow_nil _ _ _ _, .inr ⟨rfl, rfl, hi⟩⟩
  · obtain ⟨k, rfl⟩ := Int.eq_ofNat_of_zero_le (show 0 ≤ i by omega)
    have hk : k < l.length := by omega
    have hi' : l[k]? = some l[k] := List.getElem?_eq_getElem hk
    refine (at_yes bn B F l k l[k] w h hi' (hp _ (List.getElem_mem hk)) hl).mono ?_
    rintro e w' ⟨ao, cap, rfl, h1, h3⟩
    exact ⟨l[k], ao, cap, 0, rfl, h1, h3, .inl ⟨rfl, k, rfl, hi'⟩⟩

set_option maxRecDepth 100000 in
set_option maxHeartbeats 400000 in
theorem drop_c (bn B : Nat) (F : Nat → Prop) (l : List (Int × List UInt8)) (i : Int) (w : World) (h : NetIs w B F bn l) (hp : ∀ p ∈ l, p.2.length ≤ 140737488355328) (hl : l.length ≤ 140737488355328) :
    Calls Try.prog 12 #[.pointer (some ⟨bn, 0, none⟩), .int .i64 i] w
      fun e w' => ∃ er, e = .returned (.int .i64 er) ∧ Mod (TyF w B [60, 34]) w w' ∧
        ((er = 0 ∧ ∃ k : Nat, i = k ∧ k < l.length ∧ NetIs w' B F bn (l.eraseIdx k)) ∨ (er = 11 ∧ (i < 0 ∨ (l.length : Int) ≤ i) ∧ NetIs w' B F bn l)) := by
  have H := Lib.hid h; clear h
  have HP := Lib.hid hp; clear hp
  go_enter Try.func12, Try.ntmps12
  go_wp2_with fail
  refine (take_c bn B F l i _ H.out HP.out hl).mono ?_
  rintro e w' ⟨p, ao, cap, er, rfl, hm, hob, hor⟩
  have HO := Lib.hid hor; clear hor
  go_wp2
  go_ret
  have hx := (Ext.refl w').alloc (.cells #[.int .i64 p.1, .slice ao p.2.length cap] 34)
  refine ⟨er, rfl, hm.ext hx, ?_⟩
  rcases HO.out with ⟨h1, k, h2, h3, h4⟩ | ⟨h1, h2, h3, h4⟩
  · exact .inl ⟨h1, k, h2, (List.getElem?_eq_some_iff.1 h3).1, h4.ext hx⟩
  · exact .inr ⟨h1, h3, h4.ext hx⟩

def copyE (i : Int) (l : List (Int × List UInt8)) : Int := if i < 0 ∨ (l.length : Int) ≤ i then 11 else sendE ((l.getD i.toNat (0, [])).1) l
def copyL (i : Int) (l : List (Int × List UInt8)) : List (Int × List UInt8) := if i < 0 ∨ (l.length : Int) ≤ i then l else sendL (l.getD i.toNat (0, [])).1 (l.getD i.toNat (0, [])).2 l

set_option maxRecDepth 100000 in
set_option maxHeartbeats 400000 in
theorem ncopy_c (bn B : Nat) (F : Nat → Prop) (l : List (Int × List UInt8)) (i : Int) (w : World) (h : NetIs w B F bn l) (hp : ∀ p ∈ l, p.2.length ≤ 1000000000) (hl : l.length ≤ 100000) (hBw : B ≤ w.heap.size) :
    Calls Try.prog 13 #[.pointer (some ⟨bn, 0, none⟩), .int .i64 i] w
      fun e w' => e = .returned (.int .i64 (copyE i l)) ∧ Mod (TyF w B [60, 34]) w w' ∧ NetIs w' B (fun k => F k ∨ w.heap.size ≤ k) bn (copyL i l) := by
  have H := Lib.hid h; clear h
  have HP := Lib.hid hp; clear hp
  by_cases hi : i < 0 ∨ (l.length : Int) ≤ i
  · have HI := Lib.hid hi; clear hi
    go_enter Try.func13, Try.ntmps13
    go_wp2_with fail
    refine (at_no bn B F l i _ H.out HI.out).mono ?_
    rintro e w' ⟨rfl, hx⟩
    go_wp2
    go_ret
    have hx2 := hx.alloc (.cells #[.int .i64 0, .slice none 0 0] 34)
    refine ⟨by rw [copyE, if_pos HI.out]; rfl, hx2.mod, ?_⟩
    rw [copyL, if_pos HI.out]
    exact (H.out.ext hx2).mono fun _ h => .inl h
  · obtain ⟨k, rfl⟩ := Int.eq_ofNat_of_zero_le (show 0 ≤ i by omega)
    have hk : k < l.length := by omega
    have hg : l.getD (k : Int).toNat (0, []) = l[k] := by simp [List.getD, hk]
    have e1 : copyE k l = sendE l[k].1 l := by rw [copyE, if_neg hi, hg]
    have e2 : copyL k l = sendL l[k].1 l[k].2 l := by rw [copyL, if_neg hi, hg]
    rw [e1, e2]
    have hi' : l[k]? = some l[k] := List.getElem?_eq_getElem hk
    have hp' := HP.out _ (List.getElem_mem hk)
    generalize l[k] = p at hi' hp'
    clear hi hg e1 e2
    have HI := Lib.hid hi'; clear hi'
    go_enter Try.func13, Try.ntmps13
    go_wp2_with fail
    refine (at_yes bn B F l k p _ H.out HI.out (by omega) (by omega)).mono ?_
    rintro e w' ⟨ao, cap, rfl, hx, hob⟩
    go_wp2_with fail
    have hx2 := hx.alloc (.cells #[.int .i64 p.1, .slice ao p.2.length cap] 34)
    have hn2 := H.out.ext hx2
    have hb2 := Rs.of_owns (owns_ext hob ((Ext.refl _).alloc (.cells #[.int .i64 p.1, .slice ao p.2.length cap] 34)))
    have hs2 := hx2.size
    refine (send_c bn B F l p.1 ao cap p.2 _ hn2 hb2 hp' (by omega) hl).mono ?_
    rintro e w2 ⟨rfl, hm, hn⟩
    go_wp2
    go_ret
    refine ⟨rfl, tyF_ext_l hx2 hm, hn.mono fun j hj => hj.imp id fun h => by omega⟩

end Go.Proofs.Ythekjoahlaifgaa
