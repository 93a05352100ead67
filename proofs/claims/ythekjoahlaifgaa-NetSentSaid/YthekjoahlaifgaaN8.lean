/- The law NetSent, walked: for every row of calls that reads, true; what was there before is as it was. -/
import Derived.Test.YthekjoahlaifgaaN7
set_option linter.unusedVariables false
set_option linter.unusedSimpArgs false
namespace Go.Proofs.Ythekjoahlaifgaa
open Go.RowKit

/-- One call of the law's row: its cells, and its bytes. -/
structure DoRec where
  kind : Int
  to : Int
  i : Int
  ao : Option Addr
  cap : Nat
  b : List UInt8

/-- A row of calls that reads. -/
def Dos (W : World) (v : Value) (ds : List DoRec) : Prop :=
  ∃ ao cap, v = .slice ao ds.length cap ∧ ds.length ≤ cap ∧ cap ≤ 9223372036854775807 ∧
    ∀ (k : Nat) d, ds[k]? = some d → ∃ b o, ao = some ⟨b, o, none⟩ ∧ W.cell? ⟨b, o + k * 4, none⟩ = some (.int .i64 d.kind) ∧ W.cell? ⟨b, o + k * 4 + 1, none⟩ = some (.int .i64 d.to) ∧ W.cell? ⟨b, o + k * 4 + 2, none⟩ = some (.int .i64 d.i) ∧
      W.cell? ⟨b, o + k * 4 + 3, none⟩ = some (.slice d.ao d.b.length d.cap) ∧ Bs W (.slice d.ao d.b.length d.cap) d.b

theorem Bs.below {W w : World} {v : Value} {l : List UInt8} (h : Bs W v l) (hb : Below W.heap.size W w) : Bs w v l := h.ext (Ext.of_below hb)
theorem Below.cellv {W w : World} (hb : Below W.heap.size W w) {p : Addr} {v : Value} (h : W.cell? p = some v) : w.cell? p = some v := (Ext.of_below hb).cell h

theorem Bs.lt {W : World} {v : Value} {l : List UInt8} (h : Bs W v l) : ∀ k, v.ownBlock = some k → k < W.heap.size ∨ l = [] := by
  intro k hk
  cases l with
  | nil => exact .inr rfl
  | cons x l =>
    left
    obtain ⟨ao, cap, rfl, _, _, _, hc⟩ := h.open
    cases ao with
    | none => cases hk
    | some a =>
      have := World.block_lt_of_cell? W _ (hc a rfl 0 (by simp))
      rw [add_block] at this
      have e : a.block = k := Option.some.inj hk
      omega
theorem Bs.stays {w w' : World} {B : Nat} {v : Value} {l : List UInt8} (h : Bs w v l) (hl : ∀ k, v.ownBlock = some k → k < B ∨ l = []) (hb : Below B w w') : Bs w' v l := by
  cases l with
  | nil =>
    obtain ⟨ao, cap, rfl, h1, h2, h3, h4⟩ := h.open
    exact ⟨rfl, ao, cap, rfl, h1, h2, h3, fun a _ j u hu => by simp at hu⟩
  | cons x l => exact Rs.keep h fun k hk _ => hb.block k ((hl k hk).resolve_right (by simp))

/-- What was sent: slices of old memory, their bytes. -/
def SentIs (W w : World) (sv : Value) (sl : List (Value × List UInt8)) : Prop :=
  (∃ ao cap, sv = .slice ao sl.length cap) ∧ w.ownsRow W.heap.size 26 1 sv sl.length (sl.map (·.1)) ∧
    ∀ p ∈ sl, (∃ ao cap, p.1 = .slice ao p.2.length cap) ∧ Bs w p.1 p.2 ∧ ∀ k, p.1.ownBlock = some k → k < W.heap.size ∨ p.2 = []
theorem SentIs.step {W w w' : World} {sv : Value} {sl : List (Value × List UInt8)} (h : SentIs W w sv sl) (hm : Mod (TyF w W.heap.size [60, 34]) w w') (hB : W.heap.size ≤ w.heap.size) : SentIs W w' sv sl :=
  ⟨h.1, owns_tyF h.2.1 hm (by decide), fun p hp => ⟨(h.2.2 p hp).1, (h.2.2 p hp).2.1.stays (h.2.2 p hp).2.2 (tyF_below hm hB), (h.2.2 p hp).2.2⟩⟩

theorem etRows : ElemT Try.prog 25 26 1 24 := ElemT.mk' Try.underlying25 (z := .slice none 0 0) (by kernel_rfl) rfl (by decide)

/-- The state of the law's loop. -/
def SentInv (W w : World) (bn k : Nat) (sv : Value) : Prop :=
  ∃ l sl, NetIs w W.heap.size w.heap.size bn l ∧ l.length ≤ k ∧ (∀ p ∈ l, p.2.length ≤ 20 ∧ ∃ q ∈ sl, q.2 = p.2) ∧ SentIs W w sv sl ∧ sl.length ≤ k ∧ Below W.heap.size W w

set_option maxRecDepth 100000 in
set_option maxHeartbeats 2000000 in
theorem netSent_calls (v : Value) (ds : List DoRec) (W : World) (h : Dos W v ds) :
    Calls Try.prog 3 #[v] W fun e w' => e = .returned (.bool true) ∧ Below W.heap.size W w' := by
  obtain ⟨ao, cap, rfl, h1, h2, hcells⟩ := h
  obtain ⟨n, hn⟩ : ∃ n, n = ds.length := ⟨_, rfl⟩
  rw [← hn] at h1 ⊢
  have HN := Lib.hid hn; clear hn
  have HC := Lib.hid hcells; clear hcells
  go_enter Try.func3, Try.ntmps3
  go_wp2_with fail
  refine (new_c _).mono ?_
  rintro e w1 ⟨bn, rfl, hx1, hn1⟩
  go_wp2_with fail
  go_loopw [4, 5] (fun sv i wr => ∃ k : Nat, k ≤ n ∧ k ≤ 60 ∧ i = .int .i64 k ∧ SentInv W wr bn k sv) (fun _ i _ => 60 - (intOf i).toNat)
  case atStart => exact ⟨0, by omega, by omega, rfl, [], [], hn1, by simp, by simp, ⟨⟨none, 0, rfl⟩, World.ownsRow_nil _ _ _ _, by simp⟩, by simp, hx1.below⟩
  case round =>
    obtain ⟨k, hk1, hk2, rfl, l, sl, i1, i2, i3, ⟨⟨so, sc, rfl⟩, i4, i5⟩, i6, i7⟩ := hrel
    have I3 := Lib.hid i3; clear i3
    have I5 := Lib.hid i5; clear i5
    by_cases hlt : k < n ∧ k < 60
    · obtain ⟨hlt1, hlt2⟩ := hlt
      obtain ⟨d, hd⟩ : ∃ d, ds[k]? = some d := ⟨_, List.getElem?_eq_getElem (by rw [← HN.out]; exact hlt1)⟩
      obtain ⟨b, o, rfl, c0, c1, c2, c3, hb⟩ := HC.out k d hd
      have c0 := Below.cellv i7 c0
      have c1 := Below.cellv i7 c1
      have c2 := Below.cellv i7 c2
      have c3 := Below.cellv i7 c3
      clear hd
      have HB := Lib.hid hb; clear hb
      have hw : (wr.alloc (.cells #[.int .i64 d.kind, .int .i64 d.to, .int .i64 d.i, .slice d.ao d.b.length d.cap] 28)).heap.size = wr.heap.size + 1 := by simp
      have hxa := (Ext.refl wr).alloc (.cells #[.int .i64 d.kind, .int .i64 d.to, .int .i64 d.i, .slice d.ao d.b.length d.cap] 28)
      have hS0 : SentIs W wr (.slice so sl.length sc) sl := ⟨⟨so, sc, rfl⟩, i4, I5.out⟩
      have HS := Lib.hid (hS0.step hxa.mod i7.size); clear hS0
      have hn2 := i1.ext hxa
      have hbl := i7.trans (hxa.below.mono i7.size)
      have HX := Lib.hid hxa; clear hxa
      clear i1 i4
      go_wp2_with fail
      refine (cut_c _ d.b 20 (by decide) (by decide) _ (HB.out.ext (Ext.of_below hbl))).mono ?_
      rintro e w2 ⟨co, cc, rfl, rfl, hbc, hbk⟩
      have hbk' : ∀ k, (Value.slice co (d.b.take (Int.toNat 20)).length cc).ownBlock = some k → k < W.heap.size ∨ d.b.take (Int.toNat 20) = [] := fun k hk => (HB.out.lt k (hbk k hk)).imp id fun h => by rw [h]; rfl
      have hlen : (d.b.take (Int.toNat 20)).length ≤ 20 := by rw [List.length_take]; exact Nat.min_le_left _ _
      generalize d.b.take (Int.toNat 20) = b at hbc hbk' hlen
      clear hbk HB
      have HBK := Lib.hid hbk'; clear hbk'
      by_cases hk0 : d.kind = 0
      · have k0 : (d.kind == 0) = true := by simp [hk0]
        clear hk0
        go_wp2_with fail
        refine (within_c d.to 0 8 _).mono ?_
        rintro e w3 ⟨rfl, rfl⟩
        have hcl : ¬ (clampI d.to 0 8 < 0 ∨ 8 < clampI d.to 0 8) := by unfold clampI; split <;> (try split) <;> omega
        generalize clampI d.to 0 8 = to at hcl
        go_wp2_with fail
        refine (send_c bn W.heap.size _ l to co cc b _ hn2 hbc (by omega) (by have := hbl.size; omega) (by omega)).mono ?_
        rintro e w3 ⟨he, hm3, hn3⟩
        have e1 : sendE to l = 0 := by unfold sendE; rw [if_neg hcl, if_neg (by omega)]
        have e2 : sendL to b l = l ++ [(to, b)] := by unfold sendL; rw [if_neg hcl, if_neg (by omega)]
        rw [e1] at he
        rw [e2] at hn3
        subst he
        clear e1 e2 hcl
        have hs3 := HS.out.step hm3 hbl.size
        have hb3 := hbc.stays HBK.out (tyF_below hm3 hbl.size)
        have hbl3 := hbl.trans (tyF_below hm3 hbl.size)
        have hx4 := (Ext.refl w3).alloc (.cells #[.slice co b.length cc] 26)
        have hlit : (w3.alloc (.cells #[.slice co b.length cc] 26)).ownsRow 0 26 1 (.slice (some ⟨w3.heap.size, 0, none⟩) 1 1) 1 [.slice co b.length cc] := owns_lit (size := 1) rfl (Nat.zero_le _) (by decide)
        have hs4 := hs3.step hx4.mod hbl3.size
        have hsz4 := (hbl3.trans (hx4.below.mono hbl3.size)).size
        go_wp2_with (first
          | (at_builtin; refine wpList_app rfl (.tmp 42) (.tmp 44) 25 rfl etRows W.heap.size rfl hs4.2.1 rfl (Rs.of_owns hlit) (by simp [Value.oneCell']) (by omega) (by omega) hsz4 ?_; intro v' w4 ho hg _)
          | fail)
        go_roundw
        case rel =>
          obtain ⟨vo, vc, rfl⟩ := owns_shape ho
          have hg' := Mod.grown_row hg
          have hrow : ∀ j, (Value.slice so sl.length sc).ownBlock = some j → W.heap.size ≤ j := fun j hj => (owns_block hs4.2.1 hj).1
          have hx5 : Mod (TyF (w3.alloc (.cells #[.slice co b.length cc] 26)) W.heap.size [26]) (w3.alloc (.cells #[.slice co b.length cc] 26)) w4 := hg'.mono fun j _ hj => owns_in_tyF hs4.2.1 (by decide) hj
          have hbl5 := (hbl3.trans (hx4.below.mono hbl3.size)).trans (tyF_below hx5 hsz4)
          refine ⟨k + 1, by omega, by omega, by go_num, l ++ [(to, b)], sl ++ [(.slice co b.length cc, b)], ?_, by simp; omega, ?_, ⟨⟨vo, vc, by simp⟩, by simpa using ho, ?_⟩, by simp; omega, hbl5⟩
          · refine ((hn3.ext hx4).keep fun j _ _ hj ⟨c, t, fr, hc, ht⟩ => hx5.block j hj (tyF_not hc ?_)).top
            intro hin
            simp only [List.mem_cons, List.not_mem_nil, or_false] at ht hin
            rw [hin] at ht
            revert ht; decide
          · intro p hp
            rcases List.mem_append.1 hp with hp | hp
            · obtain ⟨h1, q, hq, h2⟩ := I3.out p hp
              exact ⟨h1, q, by simp [hq], h2⟩
            · simp at hp; subst hp; exact ⟨hlen, (.slice co b.length cc, b), by simp, rfl⟩
          · intro p hp
            have hb45 : Below W.heap.size w3 w4 := (hx4.below.mono hbl3.size).trans (tyF_below hx5 hsz4)
            rcases List.mem_append.1 hp with hp | hp
            · obtain ⟨h1, h2, h3⟩ := hs3.2.2 p hp
              exact ⟨h1, h2.stays h3 hb45, h3⟩
            · simp at hp; subst hp; exact ⟨⟨co, cc, rfl⟩, hb3.stays HBK.out hb45, HBK.out⟩
        case measure => simp [intOf]; omega
      · have k0 : (d.kind == 0) = false := by simp [hk0]
        clear hk0
        by_cases hk2 : d.kind = 2
        · have k2 : (d.kind == 2) = true := by simp [hk2]
          clear hk2
          go_wp2_with fail
          have HP : Hid (∀ p ∈ l, p.2.length ≤ 140737488355328) := Lib.hid fun p hp => by have := (I3.out p hp).1; omega
          refine (take_c bn W.heap.size _ l d.i _ hn2 HP.out (by omega)).mono ?_
          rintro e w3 ⟨p, po, pc, er, rfl, hm3, hob, hor⟩
          have HO := Lib.hid hor; clear hor
          have hs3 := HS.out.step hm3 hbl.size
          have hbl3 := hbl.trans (tyF_below hm3 hbl.size)
          have hx4 := (Ext.refl w3).alloc (.cells #[.int .i64 p.1, .slice po p.2.length pc] 34)
          have hs4 := hs3.step hx4.mod hbl3.size
          have hbl4 := hbl3.trans (hx4.below.mono hbl3.size)
          have hpb := Rs.of_owns (owns_ext hob hx4)
          have HX4 := Lib.hid hx4; clear hx4
          have hfin : ∀ fd : Bool, ((er ≠ 0 ∨ ∃ q ∈ sl, q.2 = p.2) → fd = true) → fd = true := by
            intro fd hfd
            refine hfd ?_
            rcases HO.out with ⟨_, j, _, h2, _⟩ | ⟨h1, _⟩
            · obtain ⟨_, q, hq, h3⟩ := I3.out p (List.mem_of_getElem? h2)
              exact .inr ⟨q, hq, h3⟩
            · exact .inl (by omega)
          have hnf : ∃ l', NetIs w3 W.heap.size w3.heap.size bn l' ∧ l'.length ≤ k ∧ ∀ p ∈ l', p.2.length ≤ 20 ∧ ∃ q ∈ sl, q.2 = p.2 := by
            rcases HO.out with ⟨_, j, _, h2, h3⟩ | ⟨_, _, _, h3⟩
            · exact ⟨_, h3, by rw [List.length_eraseIdx]; split <;> omega, fun p hp => I3.out p (List.mem_of_mem_eraseIdx hp)⟩
            · exact ⟨l, h3, i2, I3.out⟩
          have HFIN := Lib.hid hfin; clear hfin
          have HNF := Lib.hid hnf; clear hnf
          clear HO hob HP
          have HS4 := Lib.hid hs4; clear hs4
          have HPB := Lib.hid hpb; clear hpb
          obtain ⟨wo, hwo⟩ : ∃ wo : World, wo = wr := ⟨_, rfl⟩
          subst hwo
          go_wp2_with fail
          go_loopw [10, 11] (fun fd j wi => ∃ (m : Nat) (f : Bool), m ≤ sl.length ∧ j = .int .i64 m ∧ fd = .bool f ∧ Hid ((er ≠ 0 ∨ ∃ q ∈ sl.take m, q.2 = p.2) → f = true) ∧
              Ext (w3.alloc (.cells #[.int .i64 p.1, .slice po p.2.length pc] 34)) wi) (fun _ j _ => sl.length - (intOf j).toNat)
          case atStart => exact ⟨0, er != 0, by omega, rfl, rfl, Lib.hid (by simp), Ext.refl _⟩
          case round =>
            obtain ⟨m, f, hm, rfl, rfl, hf, hxi⟩ := hrel
            by_cases hml : m < sl.length
            · obtain ⟨q, hq⟩ : ∃ q, sl[m]? = some q := ⟨_, List.getElem?_eq_getElem hml⟩
              obtain ⟨⟨qo, qc, hq1⟩, hq2, _⟩ := HS4.out.2.2 q (List.mem_of_getElem? hq)
              obtain ⟨g, rfl⟩ : ∃ g, so = some ⟨g, 0, none⟩ := by
                rcases HS4.out.2.1.2 with ⟨hn, hn2⟩ | ⟨g, cap, cur, hn, _⟩
                · omega
                · simp only [Value.slice.injEq] at hn; exact ⟨_, hn.1⟩
              have hcell := World.ownsRow.cells HS4.out.2.1 (g := g) rfl m (.slice qo q.2.length qc) (by rw [List.getElem?_map, hq, ← hq1]; rfl)
              rw [add_head] at hcell
              have hcell := hxi.cell hcell
              have hcp : (w3.alloc (.cells #[.int .i64 p.1, .slice po p.2.length pc] 34)).cell? ⟨w3.heap.size, 1, none⟩ = some (.slice po p.2.length pc) := by simp
              have hcp := hxi.cell hcp
              rw [hq1] at hq2
              have hq2 := hq2.ext hxi
              have HQ2 := Lib.hid hq2; clear hq2
              have HPB' := Lib.hid (Bs.ext HPB.out hxi)
              have htk : sl.take (m + 1) = sl.take m ++ [q] := by
                rw [List.take_succ_eq_append_getElem hml]
                have := List.getElem?_eq_getElem hml
                rw [hq] at this
                rw [Option.some.inj this]
              have HTK := Lib.hid htk; clear htk hq hq1
              cases f with
              | true =>
                go_wp2_with fail
                go_quiet (fail)
                go_wp2
                go_roundw
                case rel => exact ⟨m + 1, true, by omega, by go_num, rfl, Lib.hid fun _ => rfl, hxi.drewN _⟩
                case measure => simp [intOf]; omega
              | false =>
                have hm0 : (0 : Int) ≤ (m : Int) := by omega
                have hm1 : (m : Int) < (sl.length : Int) := by omega
                go_wp2_with fail
                go_quiet ((go_at_call 11; refine Calls.quiet_of (same_c _ _ q.2 p.2 _ (HQ2.out.drewN _) (Bs.drewN HPB'.out _))))
                go_wp2
                go_roundw
                case rel =>
                  refine ⟨m + 1, decide (q.2 = p.2), by omega, by go_num, rfl, Lib.hid fun h => ?_, hxi.drewN _⟩
                  rw [HTK.out] at h
                  rcases h with h | ⟨r, hr, h⟩
                  · exact absurd (hf.out (.inl h)) (by decide)
                  · rcases List.mem_append.1 hr with hr | hr
                    · exact absurd (hf.out (.inr ⟨r, hr, h⟩)) (by decide)
                    · simp at hr; subst hr; simpa using h
                case measure => simp [intOf]; omega
            · have hf' : f = true := HFIN.out f fun h => hf.out (by rwa [List.take_of_length_le (by omega)])
              subst hf'
              go_wp2
              go_roundw
              case rel =>
                obtain ⟨l', n1, n2, n3⟩ := HNF.out
                refine ⟨k + 1, by omega, by omega, by go_num, l', sl, (n1.ext (HX4.out.trans hxi)).top, by omega, n3, ?_, by omega, hbl4.trans (hxi.below.mono hbl4.size)⟩
                exact HS4.out.step hxi.mod hbl4.size
              case measure => simp [intOf]; omega
        · have k2 : (d.kind == 2) = false := by simp [hk2]
          clear hk2
          have HP : Hid (∀ p ∈ l, p.2.length ≤ 1000000000) := Lib.hid fun p hp => by have := (I3.out p hp).1; omega
          have hBw := hbl.size
          by_cases hk3 : d.kind = 3
          · have k3 : (d.kind == 3) = true := by simp [hk3]
            clear hk3
            go_wp2_with fail
            refine (drop_c bn W.heap.size _ l d.i _ hn2 (fun p hp => by have := HP.out p hp; omega) (by omega)).mono ?_
            rintro e w3 ⟨er, rfl, hm3, hor⟩
            have HO := Lib.hid hor; clear hor
            go_wp2
            go_roundw
            case rel =>
              refine ⟨k + 1, by omega, by omega, by go_num, ?_⟩
              rcases HO.out with ⟨_, j, _, h2, h3⟩ | ⟨_, _, h3⟩
              · exact ⟨l.eraseIdx j, sl, h3, by rw [List.length_eraseIdx]; split <;> omega, fun p hp => I3.out p (List.mem_of_mem_eraseIdx hp), HS.out.step hm3 hbl.size, by omega, hbl.trans (tyF_below hm3 hbl.size)⟩
              · exact ⟨l, sl, h3, by omega, I3.out, HS.out.step hm3 hbl.size, by omega, hbl.trans (tyF_below hm3 hbl.size)⟩
            case measure => simp [intOf]; omega
          · have k3 : (d.kind == 3) = false := by simp [hk3]
            clear hk3
            by_cases hk4 : d.kind = 4
            · have k4 : (d.kind == 4) = true := by simp [hk4]
              clear hk4
              go_wp2_with fail
              refine (ncopy_c bn W.heap.size _ l d.i _ hn2 HP.out (by omega) hBw).mono ?_
              rintro e w3 ⟨rfl, hm3, hn3⟩
              go_wp2
              go_roundw
              case rel =>
                refine ⟨k + 1, by omega, by omega, by go_num, copyL d.i l, sl, hn3, ?_, ?_, HS.out.step hm3 hbl.size, by omega, hbl.trans (tyF_below hm3 hbl.size)⟩
                · unfold copyL sendL; split; omega; split; omega; split; omega; simp; omega
                · intro p hp
                  have : p ∈ l := by
                    unfold copyL sendL at hp
                    split at hp
                    · exact hp
                    · rename_i hin
                      split at hp
                      · exact hp
                      · split at hp
                        · exact hp
                        · rcases List.mem_append.1 hp with hp | hp
                          · exact hp
                          · have hlt : d.i.toNat < l.length := by omega
                            simp only [List.getD, List.getElem?_eq_getElem hlt, Option.getD_some, List.mem_singleton] at hp
                            rw [hp]
                            exact List.getElem_mem hlt
                  exact I3.out p this
              case measure => simp [intOf]; omega
            · have k4 : (d.kind == 4) = false := by simp [hk4]
              clear hk4
              go_wp2
              go_roundw
              case rel => exact ⟨k + 1, by omega, by omega, by go_num, l, sl, hn2.top, by omega, I3.out, HS.out, by omega, hbl⟩
              case measure => simp [intOf]; omega
    · have hno : n ≤ k ∨ (k < n ∧ 60 ≤ k) := by omega
      rcases hno with hno | ⟨hno, hno'⟩
      all_goals
        go_wp2_with fail
        refine (lives_c _).mono ?_
        rintro e w2 ⟨rfl, hx⟩
        go_wp2
        go_ret
        exact ⟨rfl, i7.trans (hx.below.mono i7.size)⟩

end Go.Proofs.Ythekjoahlaifgaa
