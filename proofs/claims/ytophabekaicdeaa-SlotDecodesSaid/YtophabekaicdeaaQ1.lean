/- The document's reader, by its cells. -/
import Derived.Test.YtophabekaicdeaaG3

set_option linter.unusedVariables false
set_option linter.unusedSimpArgs false
namespace Go.Proofs.Ytophabekaicdeaa
open Go.RowKit

/-- The document's reader at two cells: the bits that are left, an error. -/
def RRc (w : World) (N : Nat → Prop) (o xb : Nat) (bs : List Bool) (err : Int) : Prop :=
  ∃ ao cap, w.cell? ⟨xb, o, none⟩ = some (.slice ao bs.length cap) ∧ (w.cell? ⟨xb, o + 1, none⟩ = some (.int .i64 err) ∧ w.frozen? ⟨xb, o, none⟩ = false ∧ w.frozen? ⟨xb, o + 1, none⟩ = false) ∧ Bs w (.slice ao bs.length cap) (bbs bs) ∧ ∀ k, (Value.slice ao bs.length cap).ownBlock = some k → k ≠ xb ∧ N k
section
variable {w w' : World} {N : Nat → Prop} {o xb : Nat} {bs : List Bool} {err : Int}
theorem RRc.lt (h : RRc w N o xb bs err) : xb < w.heap.size := by
  obtain ⟨ao, cap, h1, _⟩ := h
  exact World.block_lt_of_cell? w _ h1
theorem RRc.mod {F : Nat → Prop} (h : RRc w N o xb bs err) (hm : Mod F w w') (hx : ¬ F xb) (hF : ∀ k, N k → ¬ F k) : RRc w' N o xb bs err := by
  have hlt := h.lt
  obtain ⟨ao, cap, h1, ⟨h2, f0, f1⟩, h3, h4⟩ := h
  exact ⟨ao, cap, hm.cell h1 hx, ⟨hm.cell h2 hx, hm.frozen hlt hx f0, hm.frozen hlt hx f1⟩, h3.mod hm (fun k hk _ => hF k (h4 k hk).2), h4⟩
theorem RRc.ext (h : RRc w N o xb bs err) (hx : Ext w w') : RRc w' N o xb bs err := h.mod hx id fun _ _ => id
theorem RRc.c1 (h : RRc w N o xb bs err) : w.cell? ⟨xb, o + 1, none⟩ = some (.int .i64 err) := by
  obtain ⟨ao, cap, _, h2, _⟩ := h
  exact h2.1
theorem RRc.f1 (h : RRc w N o xb bs err) : w.frozen? ⟨xb, o + 1, none⟩ = false := by
  obtain ⟨ao, cap, _, h2, _⟩ := h
  exact h2.2.2
theorem RRc.setErr (h : RRc w N o xb bs err) (e : Int) : RRc (w.setCell ⟨xb, o + 1, none⟩ (.int .i64 e)) N o xb bs e := by
  obtain ⟨ao, cap, h1, ⟨h2, f0, f1⟩, h3, h4⟩ := h
  refine ⟨ao, cap, ?_, ⟨World.cell?_setCell_same' _ _ _ (by rw [h2]; rfl), by simp [f0], by simp [f1]⟩, h3.mod (Mod.setCell (F := fun k => k = xb) (p := ⟨xb, o + 1, none⟩) (Mod.refl _ w) (fun _ => rfl) _) fun k hk _ e => (h4 k hk).1 e, h4⟩
  rw [World.cell?_setCell_other (h := by intro hh; injection hh with _ h2 _; omega)]
  exact h1
end
theorem RRc.drop {w : World} {N : Nat → Prop} {o xb p cap cap' n : Nat} {bs : List Bool} {ao ao' : Option Addr} (h1 : w.cell? ⟨xb, o, none⟩ = some (.slice ao p cap)) (hc1 : w.cell? ⟨xb, o + 1, none⟩ = some (.int .i64 0)) (hf : w.frozen? ⟨xb, o, none⟩ = false ∧ w.frozen? ⟨xb, o + 1, none⟩ = false) (h3 : Bs w (.slice ao p cap) (bbs bs)) (h4 : ∀ k, (Value.slice ao p cap).ownBlock = some k → k ≠ xb ∧ N k)
    (hp : p = bs.length) (hn : n ≤ p) (hc : p - n ≤ cap') (hcm : cap' ≤ 9223372036854775807) (hnone : ao' = none → cap' = 0) (hao : ∀ a', ao' = some a' → n < p → ∃ a, ao = some a ∧ a' = a.add n) (hob : ∀ k, ao'.map (·.block) = some k → ao.map (·.block) = some k) :
    RRc (w.setCell ⟨xb, o, none⟩ (.slice ao' (p - n) cap')) N o xb (bs.drop n) 0 ∧ Mod (fun k => k = xb) w (w.setCell ⟨xb, o, none⟩ (.slice ao' (p - n) cap')) := by
  have hm := Mod.setCell (F := fun k => k = xb) (p := ⟨xb, o, none⟩) (Mod.refl _ w) (fun _ => rfl) (.slice ao' (p - n) cap')
  have hl : (bs.drop n).length = p - n := by rw [List.length_drop, hp]
  have h4' : ∀ k, (Value.slice ao' (p - n) cap').ownBlock = some k → k ≠ xb ∧ N k := fun k hk => h4 k (by rw [ownBlock_slice] at hk ⊢; exact hob k hk)
  refine ⟨⟨ao', cap', ?_, ⟨?_, by simp [hf.1], by simp [hf.2]⟩, ?_, ?_⟩, hm⟩
  · rw [hl]; exact World.cell?_setCell_same' _ _ _ (by rw [h1]; rfl)
  · rw [World.cell?_setCell_other (h := by intro hh; injection hh with _ h2 _; omega)]
    exact hc1
  · rw [hl]
    have h5 : Rs w 1 (.slice ao' (p - n) cap') (p - n) ((((bbs bs).map bv).drop (n * 1)).take ((p - n) * 1)) := by
      have h6 : Rs w 1 (.slice ao p cap) p ((bbs bs).map bv) := by unfold Bs at h3; rwa [bbs_length, ← hp] at h3
      exact Rs.cut h6 hn (Nat.le_refl _) hc (by simpa [maxLen] using hcm) hnone fun a' ha hk => by
        obtain ⟨a, e1, e2⟩ := hao a' ha hk
        exact ⟨a, e1, by rw [Nat.mul_one]; exact e2⟩
    have e : (((bbs bs).map bv).drop (n * 1)).take ((p - n) * 1) = (bbs (bs.drop n)).map bv := by
      rw [Nat.mul_one, Nat.mul_one, List.take_of_length_le (by rw [List.length_drop, List.length_map, bbs_length]; omega)]
      unfold bbs
      rw [List.map_drop, List.map_drop]
    rw [e] at h5
    have h7 : Bs w (.slice ao' (p - n) cap') (bbs (bs.drop n)) := by unfold Bs; rw [bbs_length, hl]; exact h5
    exact h7.mod hm fun k hk _ e => (h4' k hk).1 e
  · rw [hl]; exact h4'

set_option maxHeartbeats 2000000 in
theorem rcget_ok (xb o : Nat) (N : Nat → Prop) (bs : List Bool) (n : Nat) (w : World) (h : RRc w N o xb bs 0) (hn : n ≤ 64) (hf : n ≤ bs.length) :
    Calls Try.prog 63 #[.pointer (some ⟨xb, o, none⟩), .int .i64 n] w fun e w' => e = .returned (.int .u64 (val (bs.take n) : Int)) ∧ RRc w' N o xb (bs.drop n) 0 ∧ Mod (fun k => k = xb) w w' := by
  have c1 := h.c1
  have H := Lib.hid h
  obtain ⟨ao, cap, h1, h2, h3, h4⟩ := h
  obtain ⟨p, hp⟩ : ∃ p, p = bs.length := ⟨_, rfl⟩
  have c0 : w.cell? ⟨xb, o, none⟩ = some (.slice ao p cap) := by rw [h1, hp]
  obtain ⟨hc1, f0, f1⟩ := h2
  rw [← hp] at h1 h3 h4 hf
  have h3' := h3
  obtain ⟨ao2, cap2, he, r1, r2, r3, r4⟩ := h3'.open
  rw [bbs_length, ← hp] at he r1 r4
  simp only [Value.slice.injEq] at he
  obtain ⟨rfl, _, rfl⟩ := he
  have H1 := Lib.hid h1
  have H3 := Lib.hid h3
  have H4 := Lib.hid h4
  have HP := Lib.hid hp
  have HC1 := Lib.hid hc1
  have HF01 : Hid (w.frozen? ⟨xb, o, none⟩ = false ∧ w.frozen? ⟨xb, o + 1, none⟩ = false) := Lib.hid ⟨f0, f1⟩
  have HR3 := Lib.hid r3
  clear h1 hc1 h3 h3' h4 hp r4 r3
  go_enter Try.func63, Try.ntmps63
  go_wp2_with fail
  have htk : Bs w (.slice ao n cap) (bbs (bs.take n)) := by
    have := Bs.take H3.out hf
    unfold bbs at this ⊢
    rwa [List.map_take]
  have HNUM := Lib.hid (rnum_c _ (bs.take n) w htk (by rw [List.length_take]; omega))
  clear htk
  refine HNUM.out.mono ?_
  rintro e w1 ⟨rfl, rfl⟩
  have HF := Lib.hid hf
  have HR1 := Lib.hid r1
  have HR2 := Lib.hid r2
  clear r1 r2
  go_wp2_with fail
  all_goals
    go_ret
    have hf := HF.out
    have hr1 := HR1.out
    have hr2 := HR2.out
  · have hd := RRc.drop (ao' := ao) (cap' := 0) (n := n) H1.out HC1.out HF01.out H3.out H4.out HP.out hf (by omega) (by decide) (fun _ => rfl) (fun a' _ hk => by omega) (fun k hk => hk)
    exact ⟨rfl, hd.1, hd.2⟩
  · have hd := RRc.drop (ao' := ao.map fun x => x.add n) (cap' := cap - n) (n := n) H1.out HC1.out HF01.out H3.out H4.out HP.out hf (by omega) (by omega) (fun h => by
      have h0 : ao = none := by cases ao with | none => rfl | some a => cases h
      have := HR3.out h0
      omega) (fun a' ha _ => by
      cases ao with
      | none => cases ha
      | some a => simp only [Option.map_some, Option.some.injEq] at ha; exact ⟨a, rfl, ha.symm⟩) (fun k hk => by
      cases ao with
      | none => cases hk
      | some a => simpa [add_block] using hk)
    exact ⟨rfl, hd.1, hd.2⟩

set_option maxHeartbeats 1000000 in
theorem rcget_c (xb o : Nat) (N : Nat → Prop) (bs : List Bool) (err n : Int) (w : World) (h : RRc w N o xb bs err) (hl : bs.length ≤ 1000000) :
    Calls Try.prog 63 #[.pointer (some ⟨xb, o, none⟩), .int .i64 n] w fun e w' => e = .returned (.int .u64 (rgetV bs err n : Int)) ∧ RRc w' N o xb (rgetL bs err n) (rgetE bs err n) ∧ Mod (fun k => k = xb) w w' := by
  by_cases hok : rgetOk bs err n
  · have hok' := hok
    obtain ⟨h0, h1, h2, h3⟩ := hok
    subst h0
    obtain ⟨m, rfl⟩ := Int.eq_ofNat_of_zero_le h1
    rw [rgetV, rgetL, rgetE, if_pos hok', if_pos hok', if_neg (by simp), if_neg (by omega), if_neg (by omega), Int.toNat_natCast]
    exact rcget_ok xb o N bs m w h (by omega) (by omega)
  · rw [rgetV, rgetL, if_neg hok, if_neg hok]
    have c1 := h.c1
    have f1 := h.f1
    have H := Lib.hid h
    by_cases h0 : err = 0
    · subst h0
      by_cases h1 : n < 0 ∨ 64 < n
      · rw [rgetE, if_neg (by simp), if_pos h1]
        clear h hok
        rcases h1 with h1 | h1
        all_goals
          go_enter Try.func63, Try.ntmps63
          go_wp2
          go_ret
          exact ⟨rfl, H.out.setErr 2, Mod.setCell (F := fun k => k = xb) (p := ⟨xb, o + 1, none⟩) (Mod.refl _ w) (fun _ => rfl) _⟩
      · have h3 : (bs.length : Int) < n := by unfold rgetOk at hok; omega
        rw [rgetE, if_neg (by simp), if_neg h1, if_pos h3]
        obtain ⟨ao, cap, g1, g2, g3, g4⟩ := h
        obtain ⟨p, hp⟩ : ∃ p, p = bs.length := ⟨_, rfl⟩
        have c0 : w.cell? ⟨xb, o, none⟩ = some (.slice ao p cap) := by rw [g1, hp]
        rw [← hp] at h3
        have hn0 : 0 ≤ n := by omega
        have hn1 : n ≤ 64 := by omega
        clear hok g1 g2 g3 g4 hp h1
        go_enter Try.func63, Try.ntmps63
        go_wp2
        go_ret
        exact ⟨rfl, H.out.setErr 3, Mod.setCell (F := fun k => k = xb) (p := ⟨xb, o + 1, none⟩) (Mod.refl _ w) (fun _ => rfl) _⟩
    · rw [rgetE, if_pos h0]
      have hb : (err != 0) = true := by simpa using h0
      clear h hok h0
      go_enter Try.func63, Try.ntmps63
      go_wp2
      go_ret
      exact ⟨rfl, H.out, Mod.refl _ w⟩

set_option maxRecDepth 100000 in
set_option maxHeartbeats 2000000 in
theorem rctext_err (xb o : Nat) (N : Nat → Prop) (bs : List Bool) (err : Int) (w : World) (h : RRc w N o xb bs err) (hl : bs.length ≤ 1000000) (he : rgetE bs err 16 ≠ 0) :
    Calls Try.prog 64 #[.pointer (some ⟨xb, o, none⟩)] w fun e w' => e = .returned (.string ⟨#[]⟩) ∧ RRc w' N o xb (rgetL bs err 16) (rgetE bs err 16) ∧ Mod (fun k => k = xb) w w' := by
  have hg := rcget_c xb o N bs err 16 w h hl
  have hv : rgetV bs err 16 = 0 := by
    unfold rgetV rgetE at *
    rw [if_neg]
    rintro ⟨h0, _, _, h3⟩
    apply he
    rw [if_neg (by simp [h0]), if_neg (by omega), if_neg (by omega)]
  rw [hv] at hg
  generalize rgetE bs err 16 = e1 at he hg ⊢
  generalize rgetL bs err 16 = b1 at hg ⊢
  have HG := Lib.hid hg
  have hb : (e1 != 0) = true := by simpa using he
  have hb2 : (e1 == 0) = false := by simpa using he
  clear hg he h hv hl
  go_enter Try.func64, Try.ntmps64
  go_wp2_with fail
  refine HG.out.mono ?_
  rintro e w1 ⟨rfl, h1, hm1⟩
  have c1 := h1.c1
  have H1 := Lib.hid h1
  have HM1 := Lib.hid hm1
  clear h1 hm1
  go_wp2
  go_ret
  exact ⟨rfl, H1.out, HM1.out⟩

set_option maxRecDepth 100000 in
set_option maxHeartbeats 4000000 in
theorem rctext_short (xb o : Nat) (N : Nat → Prop) (bs : List Bool) (n : Nat) (w : World) (h : RRc w N o xb bs 0) (hl : bs.length ≤ 1000000) (ha : 16 ≤ bs.length) (hn : n = val (bs.take 16)) (hf : bs.length < 16 + 8 * n) :
    Calls Try.prog 64 #[.pointer (some ⟨xb, o, none⟩)] w fun e w' => e = .returned (.string ⟨#[]⟩) ∧ RRc w' N o xb (bs.drop 16) 3 ∧ Mod (fun k => k = xb) w w' := by
  have hn16 : n < 65536 := by
    have h1 := val_lt (bs.take 16)
    rw [List.length_take, Nat.min_eq_left ha] at h1
    omega
  have hg := rcget_ok xb o N bs 16 w h (by decide) ha
  rw [← hn] at hg
  have HG := Lib.hid hg
  have hcv : IntKind.i64.wrap (n : Int) = (n : Int) := by rw [IntKind.wrap_i64]; omega
  have hmul : IntKind.i64.wrap (8 * (n : Int)) = 8 * (n : Int) := by rw [IntKind.wrap_i64]; omega
  have hnb : n ≤ 9223372036854775806 := by omega
  obtain ⟨p, hp⟩ : ∃ p, p = (bs.drop 16).length := ⟨_, rfl⟩
  have hlt : ((p : Int) < 8 * (n : Int)) = True := eq_true (by rw [List.length_drop] at hp; omega)
  have HP := Lib.hid hp
  clear hg hn hn16 h hf ha hl hp
  go_enter Try.func64, Try.ntmps64
  go_wp2_with fail
  refine HG.out.mono ?_
  rintro e w1 ⟨rfl, h1, hm1⟩
  have c1 := h1.c1
  have f1 := h1.f1
  have H1 := Lib.hid h1
  have HM1 := Lib.hid hm1
  obtain ⟨ao, cap, g1, g2, g3, g4⟩ := h1
  have c0 : w1.cell? ⟨xb, o, none⟩ = some (.slice ao p cap) := by rw [g1, HP.out]
  clear hm1 g1 g2 g3 g4
  go_wp2
  go_ret
  exact ⟨rfl, H1.out.setErr 3, Mod.setCell (F := fun k => k = xb) (p := ⟨xb, o + 1, none⟩) HM1.out (fun _ => rfl) _⟩

set_option maxRecDepth 100000 in
set_option maxHeartbeats 4000000 in
theorem rctext_ok (xb o : Nat) (N : Nat → Prop) (bs : List Bool) (n : Nat) (w : World) (hN : ∀ k, N k → k < w.heap.size) (h : RRc w N o xb bs 0) (hl : bs.length ≤ 1000000) (hn : n = val (bs.take 16)) (hf : 16 + 8 * n ≤ bs.length) :
    Calls Try.prog 64 #[.pointer (some ⟨xb, o, none⟩)] w fun e w' => e = .returned (.string ⟨(bytesL (bs.drop 16) n).toArray⟩) ∧ RRc w' N o xb (bs.drop (16 + 8 * n)) 0 ∧ Mod (fun k => k = xb) w w' := by
  have hn16 : n < 65536 := by
    have h1 := val_lt (bs.take 16)
    rw [List.length_take, Nat.min_eq_left (by omega)] at h1
    omega
  have hg := rcget_ok xb o N bs 16 w h (by decide) (by omega)
  rw [← hn] at hg
  have HG := Lib.hid hg
  have HF := Lib.hid hf
  have HL := Lib.hid hl
  have HN16 := Lib.hid hn16
  have HLT := Lib.hid h.lt
  have HNN := Lib.hid hN
  clear hN
  have hcv : IntKind.i64.wrap (n : Int) = (n : Int) := by rw [IntKind.wrap_i64]; omega
  have hmul : IntKind.i64.wrap (8 * (n : Int)) = 8 * (n : Int) := by rw [IntKind.wrap_i64]; omega
  have hnb : n ≤ 9223372036854775806 := by omega
  obtain ⟨p, hp⟩ : ∃ p, p = (bs.drop 16).length := ⟨_, rfl⟩
  have hlt : ((p : Int) < 8 * (n : Int)) = False := eq_false (by rw [List.length_drop] at hp; omega)
  have HP := Lib.hid hp
  clear hg hn hn16 h hf hl hp
  go_enter Try.func64, Try.ntmps64
  go_wp2_with fail
  refine HG.out.mono ?_
  rintro e w1 ⟨rfl, h1, hm1⟩
  have c1 := h1.c1
  have H1 := Lib.hid h1
  have HM1 := Lib.hid hm1
  obtain ⟨ao, cap, g1, g2, g3, g4⟩ := h1
  have c0 : w1.cell? ⟨xb, o, none⟩ = some (.slice ao p cap) := by rw [g1, HP.out]
  clear hm1 g1 g2 g3 g4
  go_wp2_with fail
  clear c0 c1
  go_loopw [4, 5] (fun v i wr => ∃ (k : Nat) (ao : Option Addr) (cap : Nat), k ≤ n ∧ i = .int .i64 k ∧ v = .slice ao k cap ∧ RRc wr N o xb (bs.drop (16 + 8 * k)) 0 ∧ Mod (fun k => k = xb) w wr ∧ wr.ownsRow w.heap.size 5 1 (.slice ao k cap) k ((bytesL (bs.drop 16) k).map bv)) (fun _ i _ => n - (intOf i).toNat)
  case atStart => exact ⟨0, none, 0, Nat.zero_le _, rfl, rfl, H1.out, HM1.out, World.ownsRow_nil _ _ _ _⟩
  case round =>
    obtain ⟨k, ao, cap, hk, rfl, rfl, hr, hm, ho⟩ := hrel
    have HR := Lib.hid hr
    have HM := Lib.hid hm
    have HO := Lib.hid ho
    clear hr hm ho
    by_cases hlk : k < n
    · have hgt := rcget_ok xb o N (bs.drop (16 + 8 * k)) 8 _ HR.out (by decide) (by rw [List.length_drop]; have := HF.out; omega)
      have hbs := bytesL_succ (bs.drop 16) k
      rw [List.drop_drop] at hbs
      rw [List.drop_drop, show 16 + 8 * k + 8 = 16 + 8 * (k + 1) by omega] at hgt
      generalize val ((bs.drop (16 + 8 * k)).take 8) = y at hgt hbs
      have HGT := Lib.hid hgt
      have HBS := Lib.hid hbs
      have hki : (k : Int) < (n : Int) := by omega
      clear hgt hbs
      go_wp2_with fail
      refine HGT.out.mono ?_
      rintro e w5 ⟨rfl, h5, hm5⟩
      have H5 := Lib.hid h5
      have HM5 := Lib.hid (HM.out.trans hm5 fun _ h _ => h)
      have HO5 := Lib.hid (owns_mod HO.out hm5 fun q hq e => by
        have := (owns_block HO.out hq).1
        have := HLT.out
        omega)
      have HSZ : Hid (w.heap.size ≤ w5.heap.size ∧ k ≤ 65536) := Lib.hid ⟨HM5.out.size, by have := HN16.out; omega⟩
      clear h5 hm5
      go_wp2_with (first | (at_builtin; go_loud (refine wpList_app rfl (.tmp 37) (.tmp 41) 26 rfl etBytes w.heap.size rfl (owns_ext HO5.out ((Ext.refl w5).alloc _)) rfl (Rs.of_owns (owns_lit (n := 1) (size := 1) (cs := #[.int .u8 ((y : Int) % 256)]) rfl (Nat.le_refl _) (by decide))) (by simp [Value.oneCell']) (by have := HSZ.out; omega) (by have := HSZ.out; omega) (by have := HSZ.out; simp; omega) ?_); intro v' w6 hown hgr _) | fail)
      obtain ⟨no, ncap, rfl⟩ := owns_shape hown
      have hge : ∀ q, (Value.slice ao k cap).ownBlock = some q → w.heap.size ≤ q := fun q hq => (owns_block HO5.out hq).1
      have hm6 : Mod (fun q => (Value.slice ao k cap).ownBlock = some q) w5 w6 := Mod.trans ((Ext.refl w5).alloc _).mod (Mod.grown_row hgr) fun i hi _ => hi
      have HR6 := Lib.hid (H5.out.mod hm6 (fun h3 => by have := hge _ h3; have := HLT.out; omega) fun q h1 h3 => by have := hge q h3; have := HNN.out q h1; omega)
      have HM6 : Hid (Mod (fun k => k = xb) w w6) := Lib.hid (HM5.out.trans hm6 fun q hq hl => by have := hge q hq; omega)
      have HOWN := Lib.hid hown
      clear hown hgr hge hm6
      go_roundw
      case rel =>
        refine ⟨k + 1, no, ncap, by omega, by go_num, rfl, HR6.out, HM6.out, ?_⟩
        rw [HBS.out, List.map_append]
        have h9 := HOWN.out
        rw [byte_wrap (v := y)] at h9
        exact h9
      case measure => simp [intOf]; omega
    · have hkn : k = n := by omega
      have hki : ((k : Int) < (n : Int)) = False := eq_false (by omega)
      have hconv := convert_bytes (v := .slice ao k cap) (l := bytesL (bs.drop 16) k) (w := wr) (by
        have := Rs.of_owns HO.out
        unfold Bs
        rwa [bytesL_length])
      subst hkn
      clear hlk
      go_wp2_with fail
      go_ret
      exact ⟨rfl, HR.out, HM.out⟩

end Go.Proofs.Ytophabekaicdeaa
