/- Contracts of the reference's reader: Text. -/
import Derived.Test.YtlfnpbpbgncbpaaR6
set_option linter.unusedVariables false
set_option linter.unusedSimpArgs false
namespace Go.Proofs.Ytlfnpbpbgncbpaa
open Go.RowKit

set_option maxRecDepth 100000 in
set_option maxHeartbeats 2000000 in
theorem rrtext_err (xb B : Nat) (bs : List Bool) (err : Int) (w : World) (h : RRd w B xb bs err) (hl : bs.length ≤ 1000000) (he : rgetE bs err 16 ≠ 0) :
    Calls Try.prog 31 #[.pointer (some ⟨xb, 0, none⟩)] w fun e w' => e = .returned (.string ⟨#[]⟩) ∧ RRd w' B xb (rgetL bs err 16) (rgetE bs err 16) ∧ Mod (fun k => k = xb) w w' := by
  have hg := rrget_c xb B bs err 16 w h hl
  have hv : rgetV bs err 16 = 0 := by
    unfold rgetV rgetE at *
    rw [if_neg]
    rintro ⟨h0, _, _, h3⟩
    apply he
    rw [if_neg (by simp [h0]), if_neg (by omega), if_neg (by omega)]
  rw [hv] at hg
  generalize rgetE bs err 16 = e1 at he hg ⊢
  generalize rgetL bs err 16 = b1 at hg ⊢
  have HG := Lib.hid hg
  have hb : (e1 != 0) = true := by simpa using he
  have hb2 : (e1 == 0) = false := by simpa using he
  clear hg he h hv hl
  go_enter Try.func31, Try.ntmps31
  go_wp2_with fail
  refine HG.out.mono ?_
  rintro e w1 ⟨rfl, h1, hm1⟩
  have c1 := h1.c1
  have H1 := Lib.hid h1
  have HM1 := Lib.hid hm1
  clear h1 hm1
  go_wp2
  go_ret
  exact ⟨rfl, H1.out, HM1.out⟩

set_option maxRecDepth 100000 in
set_option maxHeartbeats 4000000 in
theorem rrtext_short (xb B : Nat) (bs : List Bool) (n : Nat) (w : World) (h : RRd w B xb bs 0) (hl : bs.length ≤ 1000000) (ha : 16 ≤ bs.length) (hn : n = val (bs.take 16)) (hf : bs.length < 16 + 8 * n) :
    Calls Try.prog 31 #[.pointer (some ⟨xb, 0, none⟩)] w fun e w' => e = .returned (.string ⟨#[]⟩) ∧ RRd w' B xb (bs.drop 16) 3 ∧ Mod (fun k => k = xb) w w' := by
  have hn16 : n < 65536 := by
    have h1 := val_lt (bs.take 16)
    rw [List.length_take, Nat.min_eq_left ha] at h1
    omega
  have hg := rrget_ok xb B bs 16 w h (by decide) ha
  rw [← hn] at hg
  have HG := Lib.hid hg
  have hcv : IntKind.i64.wrap (n : Int) = (n : Int) := by rw [IntKind.wrap_i64]; omega
  have hmul : IntKind.i64.wrap (8 * (n : Int)) = 8 * (n : Int) := by rw [IntKind.wrap_i64]; omega
  have hnb : n ≤ 9223372036854775806 := by omega
  obtain ⟨p, hp⟩ : ∃ p, p = (bs.drop 16).length := ⟨_, rfl⟩
  have hlt : ((p : Int) < 8 * (n : Int)) = True := eq_true (by rw [List.length_drop] at hp; omega)
  have HP := Lib.hid hp
  clear hg hn hn16 h hf ha hl hp
  go_enter Try.func31, Try.ntmps31
  go_wp2_with fail
  refine HG.out.mono ?_
  rintro e w1 ⟨rfl, h1, hm1⟩
  have c1 := h1.c1
  have f1 := h1.fz 1
  have H1 := Lib.hid h1
  have HM1 := Lib.hid hm1
  obtain ⟨ao, cap, g1, g2, g3, g4⟩ := h1
  have c0 : w1.cell? ⟨xb, 0, none⟩ = some (.slice ao p cap) := by rw [cell_of_blk g1, HP.out]; rfl
  clear hm1 g1 g2 g3 g4
  go_wp2
  go_ret
  exact ⟨rfl, H1.out.setErr 3, Mod.setCell (F := fun k => k = xb) (p := ⟨xb, 1, none⟩) HM1.out (fun _ => rfl) _⟩

/-- So many bytes of these bits. -/
def bytesL (bs : List Bool) (n : Nat) : List UInt8 := (List.range n).map fun i => UInt8.ofNat (val ((bs.drop (8 * i)).take 8))
theorem bytesL_length (bs : List Bool) (n : Nat) : (bytesL bs n).length = n := by simp [bytesL]
theorem bytesL_succ (bs : List Bool) (n : Nat) : bytesL bs (n + 1) = bytesL bs n ++ [UInt8.ofNat (val ((bs.drop (8 * n)).take 8))] := by simp [bytesL, List.range_succ]

set_option maxRecDepth 100000 in
set_option maxHeartbeats 4000000 in
theorem rrtext_ok (xb B : Nat) (bs : List Bool) (n : Nat) (w : World) (h : RRd w B xb bs 0) (hl : bs.length ≤ 1000000) (hn : n = val (bs.take 16)) (hf : 16 + 8 * n ≤ bs.length) :
    Calls Try.prog 31 #[.pointer (some ⟨xb, 0, none⟩)] w fun e w' => e = .returned (.string ⟨(bytesL (bs.drop 16) n).toArray⟩) ∧ RRd w' B xb (bs.drop (16 + 8 * n)) 0 ∧ Mod (fun k => k = xb) w w' := by
  have hn16 : n < 65536 := by
    have h1 := val_lt (bs.take 16)
    rw [List.length_take, Nat.min_eq_left (by omega)] at h1
    omega
  have hg := rrget_ok xb B bs 16 w h (by decide) (by omega)
  rw [← hn] at hg
  have HG := Lib.hid hg
  have HF := Lib.hid hf
  have HL := Lib.hid hl
  have HN16 := Lib.hid hn16
  have HLT := Lib.hid h.lt
  have hcv : IntKind.i64.wrap (n : Int) = (n : Int) := by rw [IntKind.wrap_i64]; omega
  have hmul : IntKind.i64.wrap (8 * (n : Int)) = 8 * (n : Int) := by rw [IntKind.wrap_i64]; omega
  have hnb : n ≤ 9223372036854775806 := by omega
  obtain ⟨p, hp⟩ : ∃ p, p = (bs.drop 16).length := ⟨_, rfl⟩
  have hlt : ((p : Int) < 8 * (n : Int)) = False := eq_false (by rw [List.length_drop] at hp; omega)
  have HP := Lib.hid hp
  clear hg hn hn16 h hf hl hp
  go_enter Try.func31, Try.ntmps31
  go_wp2_with fail
  refine HG.out.mono ?_
  rintro e w1 ⟨rfl, h1, hm1⟩
  have c1 := h1.c1
  have H1 := Lib.hid h1
  have HM1 := Lib.hid hm1
  obtain ⟨ao, cap, g1, g2, g3, g4⟩ := h1
  have c0 : w1.cell? ⟨xb, 0, none⟩ = some (.slice ao p cap) := by rw [cell_of_blk g1, HP.out]; rfl
  clear hm1 g1 g2 g3 g4
  go_wp2_with fail
  clear c0 c1
  go_loopw [4, 5] (fun v i wr => ∃ (k : Nat) (ao : Option Addr) (cap : Nat), k ≤ n ∧ i = .int .i64 k ∧ v = .slice ao k cap ∧ RRd wr B xb (bs.drop (16 + 8 * k)) 0 ∧ Mod (fun k => k = xb) w wr ∧ wr.ownsRow w.heap.size 5 1 (.slice ao k cap) k ((bytesL (bs.drop 16) k).map bv)) (fun _ i _ => n - (intOf i).toNat)
  case atStart => exact ⟨0, none, 0, Nat.zero_le _, rfl, rfl, H1.out, HM1.out, World.ownsRow_nil _ _ _ _⟩
  case round =>
    obtain ⟨k, ao, cap, hk, rfl, rfl, hr, hm, ho⟩ := hrel
    have HR := Lib.hid hr
    have HM := Lib.hid hm
    have HO := Lib.hid ho
    clear hr hm ho
    by_cases hlk : k < n
    · have hgt := rrget_ok xb B (bs.drop (16 + 8 * k)) 8 _ HR.out (by decide) (by rw [List.length_drop]; have := HF.out; omega)
      have hbs := bytesL_succ (bs.drop 16) k
      rw [List.drop_drop] at hbs
      rw [List.drop_drop, show 16 + 8 * k + 8 = 16 + 8 * (k + 1) by omega] at hgt
      generalize val ((bs.drop (16 + 8 * k)).take 8) = y at hgt hbs
      have HGT := Lib.hid hgt
      have HBS := Lib.hid hbs
      have hki : (k : Int) < (n : Int) := by omega
      clear hgt hbs
      go_wp2_with fail
      refine HGT.out.mono ?_
      rintro e w5 ⟨rfl, h5, hm5⟩
      have H5 := Lib.hid h5
      have HM5 := Lib.hid (HM.out.trans hm5 fun _ h _ => h)
      have HO5 := Lib.hid (owns_mod HO.out hm5 fun q hq e => by
        have := (owns_block HO.out hq).1
        have := HLT.out
        omega)
      have HSZ : Hid (w.heap.size ≤ w5.heap.size ∧ k ≤ 65536) := Lib.hid ⟨HM5.out.size, by have := HN16.out; omega⟩
      clear h5 hm5
      go_wp2_with (first | (at_builtin; go_loud (refine wpList_app rfl (.tmp 37) (.tmp 41) 26 rfl etBytes w.heap.size rfl (owns_ext HO5.out ((Ext.refl w5).alloc _)) rfl (Rs.of_owns (owns_lit (n := 1) (size := 1) (cs := #[.int .u8 ((y : Int) % 256)]) rfl (Nat.le_refl _) (by decide))) (by simp [Value.oneCell']) (by have := HSZ.out; omega) (by have := HSZ.out; omega) (by have := HSZ.out; simp; omega) ?_); intro v' w6 hown hgr _) | fail)
      obtain ⟨no, ncap, rfl⟩ := owns_shape hown
      have hge : ∀ q, (Value.slice ao k cap).ownBlock = some q → w.heap.size ≤ q := fun q hq => (owns_block HO5.out hq).1
      have hm6 : Mod (fun q => (Value.slice ao k cap).ownBlock = some q) w5 w6 := Mod.trans ((Ext.refl w5).alloc _).mod (Mod.grown_row hgr) fun i hi _ => hi
      have HR6 := Lib.hid (H5.out.mod hm6 fun q h1 h2 h3 => by have := hge q h3; have := HLT.out; omega)
      have HM6 : Hid (Mod (fun k => k = xb) w w6) := Lib.hid (HM5.out.trans hm6 fun q hq hl => by have := hge q hq; omega)
      have HOWN := Lib.hid hown
      clear hown hgr hge hm6
      go_roundw
      case rel =>
        refine ⟨k + 1, no, ncap, by omega, by go_num, rfl, HR6.out, HM6.out, ?_⟩
        rw [HBS.out, List.map_append]
        have h9 := HOWN.out
        rw [byte_wrap (v := y)] at h9
        exact h9
      case measure => simp [intOf]; omega
    · have hkn : k = n := by omega
      have hki : ((k : Int) < (n : Int)) = False := eq_false (by omega)
      have hconv := convert_bytes (v := .slice ao k cap) (l := bytesL (bs.drop 16) k) (w := wr) (by
        have := Rs.of_owns HO.out
        unfold Bs
        rwa [bytesL_length])
      subst hkn
      clear hlk
      go_wp2_with fail
      go_ret
      exact ⟨rfl, HR.out, HM.out⟩

end Go.Proofs.Ytlfnpbpbgncbpaa
