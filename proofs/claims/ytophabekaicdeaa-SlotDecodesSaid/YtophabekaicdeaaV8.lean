/- slot: the plain law. -/
import Derived.Test.YtophabekaicdeaaV7

set_option linter.unusedVariables false
set_option linter.unusedSimpArgs false
namespace Go.Proofs.Ytophabekaicdeaa
open Go.RowKit

structure Sl.ok (x : Sl) : Prop where
  hio : R64 x.io
  hgn : R64 x.gn
  hpl : R64 x.pl
  hve : 0 ≤ x.ve ∧ x.ve < 18446744073709551616
theorem isZ_iff (x : Sl) : isZ x = true ↔ x = ⟨false, 0, 0, 0, 0, false, ⟨#[]⟩⟩ := by
  obtain ⟨us, io, gn, pl, ve, di, da⟩ := x
  unfold isZ
  simp only [Bool.and_eq_true, beq_iff_eq, ba_iff, and_true, Sl.mk.injEq]
  constructor
  · rintro ⟨a, ⟨⟨b, c⟩, d⟩, e, f, g⟩; exact ⟨a, b, c, d, e, f, g⟩
  · rintro ⟨a, b, c, d, e, f, g⟩; exact ⟨a, ⟨⟨b, c⟩, d⟩, e, f, g⟩
theorem fit_bt (b : Bool) : fitB (bt b, 1) = true := by cases b <;> decide
def fitsP (x : Sl) : Prop := (0 ≤ x.io ∧ x.io < 64) ∧ (0 ≤ x.gn ∧ x.gn < 2147483648) ∧ (0 ≤ x.pl ∧ x.pl < 8) ∧ x.ve < 1099511627776
theorem fits_iff {x : Sl} (ho : x.ok) : (itS x).all fitB = true ↔ fitsP x := by
  simp only [itS, List.all_cons, List.all_nil, Bool.and_true, Bool.and_eq_true, fit_bt, true_and]
  have k1 := fits_u (w := 6) ho.hio (by decide)
  have k2 := fits_u (w := 31) ho.hgn (by decide)
  have k3 := fits_u (w := 3) ho.hpl (by decide)
  have k4 := fits_n (w := 40) ho.hve.1 (by decide)
  have e6 : ((2 ^ 6 : Nat) : Int) = 64 := by decide
  have e31 : ((2 ^ 31 : Nat) : Int) = 2147483648 := by decide
  have e3 : ((2 ^ 3 : Nat) : Int) = 8 := by decide
  have e40 : ((2 ^ 40 : Nat) : Int) = 1099511627776 := by decide
  rw [e6] at k1
  rw [e31] at k2
  rw [e3] at k3
  rw [e40] at k4
  exact and_congr k1 (and_congr k2 (and_congr k3 k4))
theorem noB_iff (x : Sl) : noB x = false ↔ x.us = true ∧ 1 ≤ x.io ∧ x.io ≤ 40 ∧ x.da.size ≤ 64 := by
  unfold noB
  simp only [Bool.or_eq_false_iff, decide_eq_false_iff_not, Bool.not_eq_false']
  constructor
  · rintro ⟨⟨⟨a, b⟩, c⟩, d⟩; exact ⟨a, by omega, by omega, by omega⟩
  · rintro ⟨a, b, c, d⟩; exact ⟨⟨⟨a, by omega⟩, by omega⟩, by omega⟩
theorem isS_iff {x : Sl} (ho : x.ok) : isS x = true ↔ isZ x = true ∨ (noB x = false ∧ fitsP x) := by
  unfold isS
  rw [Bool.or_eq_true, noB_iff]
  unfold fitsP
  simp only [Bool.and_eq_true, decide_eq_true_iff]
  refine or_congr Iff.rfl ?_
  constructor
  · rintro ⟨⟨⟨⟨⟨⟨⟨⟨a, b⟩, c⟩, d⟩, e⟩, f⟩, g⟩, h⟩, i⟩
    exact ⟨⟨a, by omega, by omega, by omega⟩, by omega, by omega, by omega, by omega⟩
  · rintro ⟨⟨a, b, c, d⟩, e, f, g, h⟩
    exact ⟨⟨⟨⟨⟨⟨⟨⟨a, by omega⟩, by omega⟩, by omega⟩, by omega⟩, by omega⟩, by omega⟩, by omega⟩, by omega⟩
theorem rbS_items {x : Sl} (hu : x.us = true) : rbS x = (itS x).flatMap bitI ++ textBits x.da.data.toList := by
  have e1 : bitsOf (Int.toNat 1) 1 = bitI (bt x.us, 1) := by rw [hu]; rfl
  have e2 : bitsOf (cond x.di (1 : Int) 0).toNat 1 = bitI (bt x.di, 1) := rfl
  unfold rbS
  rw [e1, e2]
  simp only [itS, List.flatMap_cons, List.flatMap_nil, bitI, List.append_assoc, List.append_nil]
  rfl
theorem rbS_len {x : Sl} (hs : x.da.size ≤ 64) : (packed (rbS x)).length ≤ 128 := by
  rw [packed_length]
  unfold rbS
  simp only [List.length_append, bitsOf_length, tb_len]
  omega
theorem enc_same {x : Sl} (ho : x.ok) : encL x = rencL x ∧ encE x = rencE x := by
  have h2 := fits_iff ho
  have h3 := isS_iff ho
  unfold encL encE rencL rencE
  cases hz : isZ x with
  | true =>
    have hi : isS x = true := h3.2 (.inl hz)
    have hx := (isZ_iff x).1 hz
    rw [hi]
    subst hx
    exact ⟨by decide +kernel, rfl⟩
  | false =>
    cases hn : noB x with
    | true =>
      have hi : isS x = false := by
        cases hi : isS x with
        | false => rfl
        | true => rcases h3.1 hi with h | h
                  · rw [hz] at h; cases h
                  · rw [hn] at h; cases h.1
      rw [hi]; exact ⟨rfl, rfl⟩
    | false =>
      obtain ⟨hu, _, _, hs⟩ := (noB_iff x).1 hn
      rw [encW_err]
      cases hf : (itS x).all fitB with
      | false =>
        have hi : isS x = false := by
          cases hi : isS x with
          | false => rfl
          | true => rcases h3.1 hi with h | h
                    · rw [hz] at h; cases h
                    · exact absurd (h2.2 h.2) (by rw [hf]; simp)
        rw [hi]; exact ⟨rfl, rfl⟩
      | true =>
        have hi : isS x = true := h3.2 (.inr ⟨hn, h2.1 hf⟩)
        rw [hi, hu]
        refine ⟨?_, rfl⟩
        have ho' : (encW x).out = packed (rbS x) := by
          unfold WS.out
          rw [encW_err, hf, if_pos (by rfl), encW_bl hf, rbS_items hu]
        simp only [Bool.not_true, cond_false, cond_true, bne_self_eq_false]
        rw [ho', pads_eq (rbS_len hs)]
/-- What is OK is nothing, or a slot in its bounds. -/
theorem enc_ok {x : Sl} (ho : x.ok) (h : encE x = 0) : isZ x = true ∨ (noB x = false ∧ fitsP x ∧ encL x = padTo 128 (packed (rbS x)) ∧ isZ x = false) := by
  rw [(enc_same ho).2] at h
  unfold rencE at h
  cases hi : isS x with
  | false => rw [hi] at h; exact absurd (show (2 : Int) = 0 from h) (by decide)
  | true =>
    cases hz : isZ x with
    | true => exact .inl rfl
    | false =>
      rcases (isS_iff ho).1 hi with h1 | ⟨h1, h2⟩
      · rw [hz] at h1; cases h1
      · refine .inr ⟨h1, h2, ?_, rfl⟩
        rw [(enc_same ho).1]
        unfold rencL
        rw [hi, ((noB_iff x).1 h1).1]
        rfl
theorem enc_len {x : Sl} (ho : x.ok) (h : encE x = 0) : (encL x).length = 128 := by
  rcases enc_ok ho h with hz | ⟨h1, _, h3, _⟩
  · unfold encL; rw [hz]; simp
  · rw [h3, padTo_len (rbS_len ((noB_iff x).1 h1).2.2.2)]
theorem enc_long (x : Sl) : (encL x).length ≤ 100000 := by
  have h0 : ([] : List UInt8).length ≤ 100000 := by simp
  unfold encL
  cases isZ x with
  | true => show (List.replicate 128 (0 : UInt8)).length ≤ 100000; rw [List.length_replicate]; omega
  | false =>
    cases hn : noB x with
    | true => exact h0
    | false =>
      have h1 : (padS (encW x).out).length ≤ 100000 := by rw [pads_eq (encW_out hn), padTo_len (encW_out hn)]; omega
      cases ((encW x).err != 0) with
      | true => exact h0
      | false => exact h1
theorem rawD_ok (l : List UInt8) : (rawD l).ok := ⟨i64w_in _, i64w_in _, i64w_in _, RS.num_in _ _⟩
theorem decS_ok (l : List UInt8) : (decS l).ok := by
  have h0 : R64 0 := by unfold R64; omega
  have h1 : (0 : Int) ≤ 0 ∧ (0 : Int) < 18446744073709551616 := by omega
  unfold decS
  cases badD l with
  | true => exact ⟨h0, h0, h0, h1⟩
  | false => exact rawD_ok l
theorem bitsAll_seg : ∀ (d : List UInt8) (i : Nat) (h : i < d.length), ((bitsAll d).drop (8 * i)).take 8 = bitsOf (d[i]).toNat 8
  | [], i, h => by simp at h
  | b :: d, 0, h => by
    have hb : (bitsOf b.toNat 8).length = 8 := bitsOf_length _ _
    show ((bitsAll (b :: d)).drop 0).take 8 = bitsOf b.toNat 8
    rw [List.drop_zero, show bitsAll (b :: d) = bitsOf b.toNat 8 ++ bitsAll d from rfl, List.take_append_of_le_length (by rw [hb]; exact Nat.le_refl _), List.take_of_length_le (by rw [hb]; exact Nat.le_refl _)]
  | b :: d, i + 1, h => by
    have hb : (bitsOf b.toNat 8).length = 8 := bitsOf_length _ _
    rw [show bitsAll (b :: d) = bitsOf b.toNat 8 ++ bitsAll d from rfl, show 8 * (i + 1) = (bitsOf b.toNat 8).length + 8 * i by rw [hb]; omega, ← List.drop_drop, List.drop_left]
    exact bitsAll_seg d i (by simpa using h)
theorem drop_pre {a b : List Bool} {n : Nat} (h : a.length = n) : (a ++ b).drop n = b := by subst h; exact List.drop_left
theorem bt_eq (b : Bool) : (bt b == 1) = b := by cases b <;> decide
theorem bt_one (b : Bool) : ((bt b).toNat : Int) = bt b := by cases b <;> rfl
/-- What is read of a slot in its bounds. -/
theorem raw_back {x : Sl} (ho : x.ok) (h1 : noB x = false) (hf : fitsP x) : rawD (padTo 128 (packed (rbS x))) = x ∧ (dG7 (padTo 128 (packed (rbS x)))).err = 0 := by
  obtain ⟨hu, hio1, hio2, hs⟩ := (noB_iff x).1 h1
  obtain ⟨f0, f1, f2, f3⟩ := hf
  have hve := ho.hve
  obtain ⟨l, hl⟩ : ∃ l, l = padTo 128 (packed (rbS x)) := ⟨_, rfl⟩
  rw [← hl]
  have hlen : l.length = 128 := by rw [hl]; exact padTo_len (rbS_len hs)
  obtain ⟨t, ht⟩ := bitsAll_pad (rbS x) 128
  obtain ⟨t', ht'⟩ : ∃ t', t' = textBits x.da.data.toList ++ t := ⟨_, rfl⟩
  have hB : bitsAll l = (itS x).flatMap bitI ++ t' := by rw [hl, ht, rbS_items hu, ht', List.append_assoc]
  have hI : ((itS x).flatMap bitI).length = 82 := by simp [itS, bitI, bitsOf_length]
  have hsz : x.da.data.toList.length = x.da.size := rfl
  have g0 : dG0 l = ⟨l, 0, 0⟩ := rfl
  have c0 := RS.get_ok (s := dG0 l) (n := 1) (by rw [g0]) (by decide) (by rw [g0]; simp only; omega)
  have g1 : dG1 l = ⟨l, 1, 0⟩ := by rw [show dG1 l = (dG0 l).get ((1 : Nat) : Int) from rfl, c0.1, g0]
  have n0 : (dG0 l).num 1 = val (((bitsAll l).drop 0).take 1) := by rw [show (dG0 l).num 1 = (dG0 l).num ((1 : Nat) : Int) from rfl, c0.2, g0]
  have c1 := RS.get_ok (s := dG1 l) (n := 1) (by rw [g1]) (by decide) (by rw [g1]; simp only; omega)
  have g2 : dG2 l = ⟨l, 2, 0⟩ := by rw [show dG2 l = (dG1 l).get ((1 : Nat) : Int) from rfl, c1.1, g1]
  have n1 : (dG1 l).num 1 = val (((bitsAll l).drop 1).take 1) := by rw [show (dG1 l).num 1 = (dG1 l).num ((1 : Nat) : Int) from rfl, c1.2, g1]
  have c2 := RS.get_ok (s := dG2 l) (n := 6) (by rw [g2]) (by decide) (by rw [g2]; simp only; omega)
  have g3 : dG3 l = ⟨l, 8, 0⟩ := by rw [show dG3 l = (dG2 l).get ((6 : Nat) : Int) from rfl, c2.1, g2]
  have n2 : (dG2 l).num 6 = val (((bitsAll l).drop 2).take 6) := by rw [show (dG2 l).num 6 = (dG2 l).num ((6 : Nat) : Int) from rfl, c2.2, g2]
  have c3 := RS.get_ok (s := dG3 l) (n := 31) (by rw [g3]) (by decide) (by rw [g3]; simp only; omega)
  have g4 : dG4 l = ⟨l, 39, 0⟩ := by rw [show dG4 l = (dG3 l).get ((31 : Nat) : Int) from rfl, c3.1, g3]
  have n3 : (dG3 l).num 31 = val (((bitsAll l).drop 8).take 31) := by rw [show (dG3 l).num 31 = (dG3 l).num ((31 : Nat) : Int) from rfl, c3.2, g3]
  have c4 := RS.get_ok (s := dG4 l) (n := 3) (by rw [g4]) (by decide) (by rw [g4]; simp only; omega)
  have g5 : dG5 l = ⟨l, 42, 0⟩ := by rw [show dG5 l = (dG4 l).get ((3 : Nat) : Int) from rfl, c4.1, g4]
  have n4 : (dG4 l).num 3 = val (((bitsAll l).drop 39).take 3) := by rw [show (dG4 l).num 3 = (dG4 l).num ((3 : Nat) : Int) from rfl, c4.2, g4]
  have c5 := RS.get_ok (s := dG5 l) (n := 40) (by rw [g5]) (by decide) (by rw [g5]; simp only; omega)
  have g6 : dG6 l = ⟨l, 82, 0⟩ := by rw [show dG6 l = (dG5 l).get ((40 : Nat) : Int) from rfl, c5.1, g5]
  have n5 : (dG5 l).num 40 = val (((bitsAll l).drop 42).take 40) := by rw [show (dG5 l).num 40 = (dG5 l).num ((40 : Nat) : Int) from rfl, c5.2, g5]
  have q0 : ((dG0 l).num 1 : Int) = bt x.us := by
    rw [n0, seg_items hB (k := 0) (off := 0) (n := 1) (x := bt x.us) rfl (by simp [sumW, itS, bitI, bitsOf_length])]
    rw [val_bits_id (by cases x.us <;> decide), bt_one]
  have q1 : ((dG1 l).num 1 : Int) = bt x.di := by
    rw [n1, seg_items hB (k := 1) (off := 1) (n := 1) (x := bt x.di) rfl (by simp [sumW, itS, bitI, bitsOf_length])]
    rw [val_bits_id (by cases x.di <;> decide), bt_one]
  have q2 : ((dG2 l).num 6 : Int) = x.io := by
    rw [n2, seg_items hB (k := 2) (off := 2) (n := 6) (x := u64 x.io) rfl (by simp [sumW, itS, bitI, bitsOf_length])]
    have hu : u64 x.io = x.io := u64w_id (by omega)
    rw [hu]
    have e : (2 : Nat) ^ 6 = 64 := by decide
    rw [val_bits_id (by rw [e]; omega)]
    omega
  have q3 : ((dG3 l).num 31 : Int) = x.gn := by
    rw [n3, seg_items hB (k := 3) (off := 8) (n := 31) (x := u64 x.gn) rfl (by simp [sumW, itS, bitI, bitsOf_length])]
    have hu : u64 x.gn = x.gn := u64w_id (by omega)
    rw [hu]
    have e : (2 : Nat) ^ 31 = 2147483648 := by decide
    rw [val_bits_id (by rw [e]; omega)]
    omega
  have q4 : ((dG4 l).num 3 : Int) = x.pl := by
    rw [n4, seg_items hB (k := 4) (off := 39) (n := 3) (x := u64 x.pl) rfl (by simp [sumW, itS, bitI, bitsOf_length])]
    have hu : u64 x.pl = x.pl := u64w_id (by omega)
    rw [hu]
    have e : (2 : Nat) ^ 3 = 8 := by decide
    rw [val_bits_id (by rw [e]; omega)]
    omega
  have q5 : ((dG5 l).num 40 : Int) = x.ve := by
    rw [n5, seg_items hB (k := 5) (off := 42) (n := 40) (x := x.ve) rfl (by simp [sumW, itS, bitI, bitsOf_length])]
    have e : (2 : Nat) ^ 40 = 1099511627776 := by decide
    rw [val_bits_id (by rw [e]; omega)]
    omega
  -- the text
  have hd : (bitsAll l).drop 82 = bitsOf x.da.size 16 ++ (bitsAll x.da.data.toList ++ t) := by
    rw [hB, ← hI, List.drop_left, ht']
    unfold textBits
    rw [hsz, List.append_assoc]
  have h16 : (bitsOf x.da.size 16).length = 16 := bitsOf_length _ _
  have hlong : (dG6 l).long = x.da.size := by
    rw [g6]
    show val (((bitsAll l).drop 82).take 16) = x.da.size
    rw [hd, List.take_append_of_le_length (by rw [h16]; exact Nat.le_refl _), List.take_of_length_le (by rw [h16]; exact Nat.le_refl _)]
    exact val_bits_id (by have e : (2 : Nat) ^ 16 = 65536 := by decide
                          rw [e]; omega)
  have hok : (dG6 l).okT = true := by
    have he : getE (dG6 l).l (dG6 l).at' (dG6 l).err 16 = 0 := by
      rw [g6]
      show getE l 82 0 16 = 0
      unfold getE
      rw [if_neg (by simp), if_neg (by omega), if_neg (by omega)]
    have h2 : (dG6 l).at' + 16 + 8 * (dG6 l).long ≤ 8 * (dG6 l).l.length := by
      rw [hlong, g6]
      simp only
      omega
    exact decide_eq_true ⟨he, h2⟩
  have hd2 : (bitsAll l).drop 98 = bitsAll x.da.data.toList ++ t := by
    rw [show (98 : Nat) = 82 + 16 from rfl, ← List.drop_drop, hd]
    exact drop_pre h16
  have hby : bytesFrom l 98 x.da.size = x.da.data.toList := by
    refine List.ext_getElem (by rw [bytesFrom_length, hsz]) fun i hi1 hi2 => ?_
    have hi3 : i < x.da.size := by rw [bytesFrom_length] at hi1; exact hi1
    have hA : (bitsAll x.da.data.toList).length = 8 * x.da.size := by rw [bitsAll_length, hsz]
    have hg : (bytesFrom l 98 x.da.size)[i] = UInt8.ofNat (val (((bitsAll l).drop (98 + 8 * i)).take 8)) := by simp [bytesFrom, bitsFrom]
    rw [hg]
    rw [← List.drop_drop, hd2, List.drop_append_of_le_length (by rw [hA]; omega), List.take_append_of_le_length (by rw [List.length_drop, hA]; omega), bitsAll_seg _ i (by rw [hsz]; exact hi3)]
    have hb := UInt8.toNat_lt (x.da.data.toList[i])
    rw [val_bits_id hb]
    simp
  have htxt : (dG6 l).txt = x.da := by
    unfold RS.txt
    rw [if_pos hok, hlong, g6]
    show (⟨(bytesFrom l 98 x.da.size).toArray⟩ : ByteArray) = x.da
    rw [hby]
  have haft : (dG7 l).err = 0 := by
    show (dG6 l).aft.err = 0
    unfold RS.aft
    rw [if_pos hok]
  refine ⟨?_, haft⟩
  unfold rawD
  rw [q0, q1, q2, q3, q4, q5, htxt, bt_eq, bt_eq, i64w_id ho.hio, i64w_id ho.hgn, i64w_id ho.hpl]
theorem zero_back : decSE (List.replicate 128 0) = 0 ∧ decS (List.replicate 128 0) = ⟨false, 0, 0, 0, 0, false, ⟨#[]⟩⟩ := by
  have h0 : decSE (List.replicate 128 0) = 0 := by decide +kernel
  have h1 : isZ (decS (List.replicate 128 0)) = true := by decide +kernel
  exact ⟨h0, (isZ_iff _).1 h1⟩
/-- What was put in is got out. -/
theorem back {x : Sl} (ho : x.ok) (h : encE x = 0) : decSE (encL x) = 0 ∧ decS (encL x) = x := by
  rcases enc_ok ho h with hz | ⟨h1, h2, h3, hz⟩
  · have hL : encL x = List.replicate 128 0 := by unfold encL; rw [hz]; rfl
    rw [hL, (isZ_iff x).1 hz]
    exact zero_back
  · obtain ⟨r1, r2⟩ := raw_back ho h1 h2
    rw [← h3] at r1 r2
    have hbad : badD (encL x) = false := by
      unfold badD
      rw [r1, r2, h]
      simp
    constructor
    · unfold decSE; rw [hbad]; rfl
    · unfold decS; rw [hbad, r1]; rfl
theorem back2 {l : List UInt8} (h : decSE l = 0) : encE (decS l) = 0 ∧ encL (decS l) = l := by
  have hb : badD l = false := by
    cases hb : badD l with
    | false => rfl
    | true => unfold decSE at h; rw [hb] at h; exact absurd h (by decide)
  have hd : decS l = rawD l := by unfold decS; rw [hb]; rfl
  unfold badD at hb
  simp only [Bool.or_eq_false_iff, bne_eq_false_iff_eq, Bool.not_eq_false', decide_eq_true_iff] at hb
  obtain ⟨⟨_, h2⟩, h3⟩ := hb
  rw [hd]
  exact ⟨h2, h3.symm⟩
theorem bkB_true (m : List UInt8) : bkB m = true := by
  unfold bkB
  by_cases h : decSE m = 0
  · obtain ⟨e1, e2⟩ := back2 h
    rw [e1, e2]
    simp
  · have : (decSE m != 0) = true := by simp [h]
    rw [this]; rfl
theorem bakB_true {x : Sl} (ho : x.ok) (m : List UInt8) : bakB x m = true := by
  unfold bakB
  rw [bkB_true]
  by_cases h0 : encE x = 0
  · obtain ⟨e1, e2⟩ := back ho h0
    rw [h0, e1, e2, eqS'_refl]
    rfl
  · have : (encE x == 0) = false := by simp [h0]
    rw [this]; rfl
theorem encB_true {x : Sl} (ho : x.ok) : encB x = true := by
  obtain ⟨e1, e2⟩ := enc_same ho
  unfold encB
  rw [e1, e2]
  simp
end Go.Proofs.Ytophabekaicdeaa
