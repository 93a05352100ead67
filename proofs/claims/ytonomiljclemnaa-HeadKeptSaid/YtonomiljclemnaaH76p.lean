/- H75 H76. -/
import Derived.Test.YtonomiljclemnaaH74p
set_option linter.unusedVariables false
set_option linter.unusedSimpArgs false
namespace Go.Proofs.Ytonomiljclemnaa
open Go.RowKit
theorem u64and (a b : Int) (hb : 0 ≤ b ∧ b < 18446744073709551616) : 0 ≤ IntKind.u64.wrap ((BitVec.ofInt IntKind.u64.bits a &&& BitVec.ofInt IntKind.u64.bits b).toNat : Int) ∧ IntKind.u64.wrap ((BitVec.ofInt IntKind.u64.bits a &&& BitVec.ofInt IntKind.u64.bits b).toNat : Int) ≤ b := by
  have h1 : (BitVec.ofInt IntKind.u64.bits a &&& BitVec.ofInt IntKind.u64.bits b).toNat ≤ (BitVec.ofInt IntKind.u64.bits b).toNat := by
    rw [BitVec.toNat_and]; exact Nat.and_le_right
  have h2 : ((BitVec.ofInt IntKind.u64.bits b).toNat : Int) = b := by
    rw [BitVec.toNat_ofInt]
    show ((b % ((2 ^ 64 : Nat) : Int)).toNat : Int) = b
    rw [Int.emod_eq_of_lt (by omega) (by omega)]; omega
  rw [u64w_id (by omega)]
  omega
theorem hpI_mod {g : Int} (h : 0 ≤ g ∧ g < 18446744073709551616) : hpI 0 g = g % 2 := by
  have h1 : (BitVec.ofInt IntKind.u64.bits g &&& BitVec.ofInt IntKind.u64.bits 1).toNat = g.toNat % 2 := by
    rw [BitVec.toNat_and, BitVec.toNat_ofInt, BitVec.toNat_ofInt]
    show (g % ((2 ^ 64 : Nat) : Int)).toNat &&& 1 = _
    rw [Int.emod_eq_of_lt (by omega) (by omega), Nat.and_one_is_mod]
  unfold hpI
  rw [h1, u64w_id (by omega), IntWalk.i64_in ((g.toNat % 2 : Nat) : Int) (by omega), IntWalk.i64_in _ (by omega)]
  omega
structure HRan (ep g t f : Int) : Prop where
  e : 0 ≤ ep ∧ ep ≤ 16777215
  g : 0 ≤ g ∧ g ≤ 1099511627775
  t : 0 ≤ t ∧ t ≤ 1099511627775
  f : 0 ≤ f ∧ f ≤ 16777215
def hs (ep g t f : Int) : List UInt8 := okL (svP ep g t f)
section
variable {ep g t f : Int}
theorem svW_bl (ht : 0 ≤ t ∧ t ≤ 1099511627775) (hf : 0 ≤ f ∧ f ≤ 16777215) : (svW t f).err = 0 ∧ (svW t f).bl = bitsOf t.toNat 40 ++ bitsOf f.toNat 24 := by
  have hall : [(t, (40 : Int)), (f, (24 : Int))].all fitB = true := by
    simp only [List.all_cons, List.all_nil, Bool.and_true, Bool.and_eq_true]
    refine ⟨(fitB_iff (by decide)).2 ?_, (fitB_iff (by decide)).2 ?_⟩
    · show t.toNat < 2 ^ 40; omega
    · show f.toNat < 2 ^ 24; omega
  have h1 := puts_err [(t, (40 : Int)), (f, (24 : Int))] (s := WS.new) rfl
  have h2 := puts_bl [(t, (40 : Int)), (f, (24 : Int))] (s := WS.new) rfl hall
  rw [hall] at h1
  refine ⟨h1, ?_⟩
  refine (show (svW t f).bl = _ from h2).trans ?_
  show [] ++ (bitsOf t.toNat 40 ++ (bitsOf f.toNat 24 ++ [])) = _
  simp
theorem svW_out (ht : 0 ≤ t ∧ t ≤ 1099511627775) (hf : 0 ≤ f ∧ f ≤ 16777215) : (svW t f).out.length = 8 ∧ bitsAll (svW t f).out = bitsOf t.toNat 40 ++ bitsOf f.toNat 24 := by
  obtain ⟨h1, h2⟩ := svW_bl ht hf
  unfold WS.out
  rw [if_pos h1, h2]
  have hl : (bitsOf t.toNat 40 ++ bitsOf f.toNat 24).length = 64 := by simp [bitsOf_length]
  refine ⟨by rw [packed_length, hl], ?_⟩
  obtain ⟨k, hk, e⟩ := bitsAll_packed _ (bitsOf t.toNat 40 ++ bitsOf f.toNat 24) (Nat.le_refl _)
  have hlen := congrArg List.length e
  rw [bitsAll_length, packed_length, hl, List.length_append, List.length_replicate, hl] at hlen
  have : k = 0 := by omega
  subst this
  rw [e]; simp
theorem svP_ok (h : HRan ep g t f) : (svP ep g t f).ok := by
  refine ⟨?_, ?_, ?_⟩
  · show ep.toNat ≤ _; have := h.e; omega
  · show g.toNat ≤ _; have := h.g; omega
  · show (svW t f).out.length ≤ 106; rw [(svW_out h.t h.f).1]; decide
theorem hs_sec (h : HRan ep g t f) : hs ep g t f = (svP ep g t f).sec := by unfold hs okL; rw [if_pos (svP_ok h)]
theorem hs_len (h : HRan ep g t f) : (hs ep g t f).length = 128 := by rw [hs_sec h]; exact Pc.sec_length (svP_ok h).2.2
theorem svP_st (h : HRan ep g t f) : ((svP ep g t f).st : Int) = ep * 1099511627776 + g := by
  show ((ep.toNat * 1099511627776 + g.toNat : Nat) : Int) = _
  have := h.e; have := h.g; omega
theorem hs_front (h : HRan ep g t f) : (hs ep g t f).take 8 = numL (svP ep g t f).st 8 := by rw [hs_sec h]; exact Pc.sec_take _
theorem hs_back (h : HRan ep g t f) : (hs ep g t f).drop 120 = numL (svP ep g t f).st 8 := by rw [hs_sec h]; exact Pc.sec_drop (svP_ok h).2.2
theorem hs_okN (h : HRan ep g t f) : ((okN (svP ep g t f) : Int) != 0) = false := by unfold okN; rw [if_pos (svP_ok h)]; rfl
theorem hs_sc (h : HRan ep g t f) : isSec (hs ep g t f) ∧ secP (hs ep g t f) = svP ep g t f := by
  have h1 : isSec (hs ep g t f) := by rw [hs_sec h]; exact isSec_sec (svP_ok h)
  refine ⟨h1, ?_⟩
  unfold secP
  rw [if_pos h1, hs_sec h]
  exact pcOf_sec (svP_ok h)
theorem hs_num (h : HRan ep g t f) : ((RS.new (svW t f).out).num 40 : Int) = t ∧ (((RS.new (svW t f).out).get 40).num 24 : Int) = f ∧ hrR (hs ep g t f) = ⟨(svW t f).out, 64, 0⟩ := by
  obtain ⟨o1, o2⟩ := svW_out h.t h.f
  have hd : (secP (hs ep g t f)).d = (svW t f).out := by rw [(hs_sc h).2]; rfl
  have c1 := RS.get_ok (s := RS.new (svW t f).out) (n := 40) rfl (by decide) (by show 0 + 40 ≤ 8 * (svW t f).out.length; omega)
  have e1 : (RS.new (svW t f).out).get 40 = ⟨(svW t f).out, 40, 0⟩ := c1.1
  have c2 := RS.get_ok (s := ⟨(svW t f).out, 40, 0⟩) (n := 24) rfl (by decide) (by show 40 + 24 ≤ 8 * (svW t f).out.length; omega)
  have ht := h.t
  have hf := h.f
  refine ⟨?_, ?_, ?_⟩
  · have : (RS.new (svW t f).out).num 40 = t.toNat := by
      refine c1.2.trans ?_
      show val (((bitsAll (svW t f).out).drop 0).take 40) = _
      rw [o2, List.drop_zero, List.take_append_of_le_length (by rw [bitsOf_length]; decide), List.take_of_length_le (by rw [bitsOf_length]; decide), val_bits_id (by omega)]
    rw [this]; omega
  · rw [e1]
    have : (⟨(svW t f).out, 40, 0⟩ : RS).num 24 = f.toNat := by
      refine c2.2.trans ?_
      show val (((bitsAll (svW t f).out).drop 40).take 24) = _
      have hh : (bitsOf t.toNat 40 ++ bitsOf f.toNat 24).drop 40 = bitsOf f.toNat 24 := by
        rw [List.drop_append_of_le_length (by rw [bitsOf_length]; decide), List.drop_of_length_le (by rw [bitsOf_length]; decide), List.nil_append]
      rw [o2, hh, List.take_of_length_le (by rw [bitsOf_length]; decide), val_bits_id (by omega)]
    rw [this]; omega
  · unfold hrR
    rw [hd, e1]
    exact c2.1
theorem hs_read (h : HRan ep g t f) {x : Int} (hx : g % 2 = x) : hrB 0 x (hs ep g t f) = true ∧ hrG 0 x (hs ep g t f) = g ∧ hrL 0 x (hs ep g t f) = t ∧ hrF 0 x (hs ep g t f) = f := by
  obtain ⟨s1, s2⟩ := hs_sc h
  obtain ⟨n1, n2, n3⟩ := hs_num h
  have hg := h.g
  have hc : ((secP (hs ep g t f)).ct : Int) = g := by rw [s2]; show ((g.toNat : Nat) : Int) = g; omega
  have hT : hrT 0 x (hs ep g t f) = false := by
    unfold hrT secNL
    rw [if_pos s1, hc, hpI_mod (by omega), hx, s2]
    simp [svP, pcI]
  have hW : hrW (hs ep g t f) = false := by
    unfold hrW
    rw [n3]
    unfold endI endB
    have o1 := (svW_out h.t h.f).1
    simp only [o1]
    rfl
  have hB : hrB 0 x (hs ep g t f) = true := by unfold hrB; rw [hT, hW]; rfl
  have hd : (secP (hs ep g t f)).d = (svW t f).out := by rw [s2]; rfl
  refine ⟨hB, ?_, ?_, ?_⟩
  · unfold hrG; rw [hB, cond_true, hc]
  · unfold hrL; rw [hB, cond_true, hd]; exact n1
  · unfold hrF; rw [hB, cond_true, hd]; exact n2
end
theorem hr_none {x : Int} {b : List UInt8} (h : ¬ isSec b) : hrB 0 x b = false := by
  unfold hrB hrT secNL
  rw [if_neg h]
  rfl
theorem sec_ends {b : List UInt8} (h : isSec b) : b.take 8 = b.drop 120 := by
  have h1 := h.2.2
  have hl : (pcOf b).d.length ≤ 106 := (pcOf_ok h.1 h.2.1).1.2.2
  rw [← h1, Pc.sec_take, Pc.sec_drop hl]
structure SecI (E G : Int) (b : List UInt8) : Prop where
  len : b.length = 128
  z : ∀ j, j < 2 → b[j]? = some 0 ∧ b[120 + j]? = some 0
  n : ∃ c, b[122]? = some c ∧ (c.toNat : Int) ≤ E
  o : (∃ c, b[122]? = some c ∧ (c.toNat : Int) < E) ∨ ∃ g t f, HRan E g t f ∧ b = hs E g t f ∧ g ≤ G
theorem SecI.up {E G G' : Int} {b : List UInt8} (h : SecI E G b) : SecI (E + 1) G' b := by
  obtain ⟨c, h1, h2⟩ := h.n
  exact ⟨h.len, h.z, ⟨c, h1, by omega⟩, .inl ⟨c, h1, by omega⟩⟩
theorem SecI.gen {E G G' : Int} {b : List UInt8} (h : SecI E G b) (hG : G ≤ G') : SecI E G' b :=
  ⟨h.len, h.z, h.n, h.o.imp id fun ⟨g, t, f, h1, h2, h3⟩ => ⟨g, t, f, h1, h2, by omega⟩⟩
theorem get8 {b : List UInt8} {a : List UInt8} (h : b.take 8 = a) {j : Nat} (hj : j < 8) : b[j]? = a[j]? := by
  rw [← h, List.getElem?_take_of_lt hj]
theorem get120 {b : List UInt8} {a : List UInt8} (h : b.drop 120 = a) (j : Nat) : b[120 + j]? = a[j]? := by
  rw [← h, List.getElem?_drop]
theorem hs_bytes {ep g t f : Int} (h : HRan ep g t f) (he : ep < 256) : (∀ j, j < 2 → (hs ep g t f)[j]? = some 0 ∧ (hs ep g t f)[120 + j]? = some 0) ∧ (hs ep g t f)[2]? = some (UInt8.ofNat ep.toNat) ∧ (hs ep g t f)[122]? = some (UInt8.ofNat ep.toNat) := by
  have hst := svP_st h
  have hg := h.g
  have he0 := h.e
  obtain ⟨s, hs'⟩ : ∃ s, s = (svP ep g t f).st := ⟨_, rfl⟩
  rw [← hs'] at hst
  have hb : ∀ j, j < 8 → (hs ep g t f)[j]? = (numL s 8)[j]? := fun j hj => by rw [hs']; exact get8 (hs_front h) hj
  have hc : ∀ j, (hs ep g t f)[120 + j]? = (numL s 8)[j]? := fun j => by rw [hs']; exact get120 (hs_back h) j
  have z0 : (numL s 8)[0]? = some 0 := by
    rw [numL_getElem? s 8 0 (by decide)]
    have : s / 256 ^ (8 - 1 - 0) = 0 := Nat.div_eq_of_lt (by show s < 72057594037927936; omega)
    rw [this]; rfl
  have z1 : (numL s 8)[1]? = some 0 := by
    rw [numL_getElem? s 8 1 (by decide)]
    have : s / 256 ^ (8 - 1 - 1) = 0 := Nat.div_eq_of_lt (by show s < 281474976710656; omega)
    rw [this]; rfl
  have z2 : (numL s 8)[2]? = some (UInt8.ofNat ep.toNat) := by
    rw [numL_getElem? s 8 2 (by decide)]
    have : s / 256 ^ (8 - 1 - 2) = ep.toNat := by show s / 1099511627776 = _; omega
    rw [this]
  refine ⟨fun j hj => ?_, by rw [hb 2 (by decide), z2], by rw [hc 2, z2]⟩
  rw [hb j (by omega), hc j]
  match j, hj with
  | 0, _ => exact ⟨z0, z0⟩
  | 1, _ => exact ⟨z1, z1⟩
theorem hs_secI {ep g t f : Int} (h : HRan ep g t f) (he : ep < 256) : SecI ep g (hs ep g t f) := by
  obtain ⟨h1, h2, h3⟩ := hs_bytes h he
  have hc : ((UInt8.ofNat ep.toNat).toNat : Int) = ep := by rw [toNat_small (by omega)]; have := h.e; omega
  exact ⟨hs_len h, h1, ⟨_, h3, by rw [hc]; exact Int.le_refl _⟩, .inr ⟨g, t, f, h, rfl, Int.le_refl _⟩⟩
theorem hs_ne {E G g t f : Int} {b : List UInt8} (hb : SecI E G b) (h : HRan E g t f) (he : E < 256) (hG : G < g) : b.drop 120 ≠ (hs E g t f).drop 120 := by
  intro e
  rcases hb.o with ⟨c, h1, h2⟩ | ⟨g', t', f', h1, h2, h3⟩
  · have k1 := (hs_bytes h he).2.2
    have k2 : b[122]? = (hs E g t f)[122]? := by
      rw [show (122 : Nat) = 120 + 2 from rfl, ← List.getElem?_drop, e, List.getElem?_drop]
    rw [h1, k1] at k2
    simp only [Option.some.injEq] at k2
    rw [k2, toNat_small (by have := h.e; omega)] at h2
    have := h.e; omega
  · rw [h2, hs_back h1, hs_back h] at e
    have hv := congrArg valBL e
    rw [valBL_numL, valBL_numL] at hv
    have a1 := svP_st h1
    have a2 := svP_st h
    have g1 := h.g; have g2 := h1.g; have g3 := h.e
    rw [Nat.mod_eq_of_lt (by show _ < 18446744073709551616; omega), Nat.mod_eq_of_lt (by show _ < 18446744073709551616; omega)] at hv
    omega
theorem torn_or {E G g t f : Int} {b : List UInt8} (hb : SecI E G b) (h : HRan E g t f) (he : E < 256) (hG : G < g) (n : Nat) (hn : n ≤ 128) :
    let z := (hs E g t f).take n ++ b.drop n
    (z = b ∨ z = hs E g t f ∨ ¬ isSec z) ∧ z.length = 128 ∧ (∀ j, j < 2 → z[j]? = some 0 ∧ z[120 + j]? = some 0) ∧ ∃ c, z[122]? = some c ∧ (c.toNat : Int) ≤ E := by
  intro z
  obtain ⟨y, hy⟩ : ∃ y, y = hs E g t f := ⟨_, rfl⟩
  have hyl : y.length = 128 := by rw [hy]; exact hs_len h
  obtain ⟨y1, y2, y3⟩ := hs_bytes h he
  rw [← hy] at y1 y2 y3
  have hE : ((UInt8.ofNat E.toNat).toNat : Int) = E := by rw [toNat_small (by omega)]; have := h.e; omega
  have hz : z = y.take n ++ b.drop n := by rw [hy]
  have hlt : (y.take n).length = n := by rw [List.length_take]; omega
  have zl : z.length = 128 := by rw [hz, List.length_append, hlt, List.length_drop, hb.len]; omega
  have zi : ∀ j, z[j]? = if j < n then y[j]? else b[j]? := fun j => by
    rw [hz]
    split
    · rename_i hj
      rw [List.getElem?_append_left (by omega), List.getElem?_take_of_lt hj]
    · rename_i hj
      rw [List.getElem?_append_right (by omega), hlt, List.getElem?_drop]
      congr 1; omega
  rw [← hy]
  refine ⟨?_, zl, fun j hj => ?_, ?_⟩
  · by_cases hs : isSec z
    · have ends := sec_ends hs
      have hye : y.take 8 = y.drop 120 := by rw [hy, hs_front h, hs_back h]
      have hne := hs_ne hb h he hG
      rw [← hy] at hne
      have yy : ∀ j, j < 8 → y[j]? = y[120 + j]? := fun j hj => by
        rw [← List.getElem?_drop, ← hye, List.getElem?_take_of_lt hj]
      have zz : ∀ j, j < 8 → z[j]? = z[120 + j]? := fun j hj => by
        rw [← List.getElem?_drop, ← ends, List.getElem?_take_of_lt hj]
      by_cases h120 : n ≤ 120
      · by_cases h8 : 8 ≤ n
        · exfalso
          apply hne
          apply List.ext_getElem?
          intro j
          rw [List.getElem?_drop, List.getElem?_drop]
          by_cases hj : j < 8
          · have e1 := zz j hj
            rw [zi j, if_pos (by omega), zi (120 + j), if_neg (by omega)] at e1
            rw [← e1, yy j hj]
          · rw [List.getElem?_eq_none (by rw [hb.len]; omega), List.getElem?_eq_none (by rw [hyl]; omega)]
        · -- torn within the first stamp
          have key : b.take 8 = b.drop 120 → z = b := fun hbe => by
            have bb : ∀ j, j < 8 → b[j]? = b[120 + j]? := fun j hj => by
              rw [← List.getElem?_drop, ← hbe, List.getElem?_take_of_lt hj]
            apply List.ext_getElem?
            intro j
            rw [zi j]
            split
            · rename_i hj
              have e1 := zz j (by omega)
              rw [zi j, if_pos hj, zi (120 + j), if_neg (by omega)] at e1
              rw [e1, bb j (by omega)]
            · rfl
          rcases hb.o with ⟨c, h1, h2⟩ | ⟨g', t', f', h1, h2, h3⟩
          · by_cases h3 : 3 ≤ n
            · exfalso
              have e1 := zz 2 (by decide)
              rw [zi 2, if_pos (by omega), zi (120 + 2), if_neg (by omega), y2, show 120 + 2 = 122 from rfl, h1] at e1
              simp only [Option.some.injEq] at e1
              rw [← e1, hE] at h2
              omega
            · refine .inl (key ?_)
              apply List.ext_getElem?
              intro j
              by_cases hj : j < 8
              · rw [List.getElem?_take_of_lt hj, List.getElem?_drop]
                by_cases hj2 : j < n
                · rw [(hb.z j (by omega)).1, (hb.z j (by omega)).2]
                · have e1 := zz j hj
                  rw [zi j, if_neg hj2, zi (120 + j), if_neg (by omega)] at e1
                  exact e1
              · rw [List.getElem?_eq_none (by rw [List.length_take]; omega), List.getElem?_eq_none (by rw [List.length_drop, hb.len]; omega)]
          · refine .inl (key ?_)
            rw [h2, hs_front h1, hs_back h1]
      · refine .inr (.inl ?_)
        apply List.ext_getElem?
        intro j
        rw [zi j]
        split
        · rfl
        · rename_i hj
          by_cases hj2 : j < 128
          · have e1 := zz (j - 120) (by omega)
            rw [zi (j - 120), if_pos (by omega), zi (120 + (j - 120)), if_neg (by omega), show 120 + (j - 120) = j by omega] at e1
            rw [← e1, yy (j - 120) (by omega), show 120 + (j - 120) = j by omega]
          · rw [List.getElem?_eq_none (by rw [hb.len]; omega), List.getElem?_eq_none (by rw [hyl]; omega)]
    · exact .inr (.inr hs)
  · rw [zi j, zi (120 + j)]
    constructor
    · split
      · exact (y1 j hj).1
      · exact (hb.z j hj).1
    · split
      · exact (y1 j hj).2
      · exact (hb.z j hj).2
  · rw [zi 122]
    split
    · exact ⟨_, y3, by rw [hE]; exact Int.le_refl _⟩
    · exact hb.n
end Go.Proofs.Ytonomiljclemnaa
set_option linter.unusedVariables false
set_option linter.unusedSimpArgs false
namespace Go.Proofs.Ytonomiljclemnaa
open Go.RowKit
def atL (L : List (List UInt8)) (x : Int) : List UInt8 := L.getD x.toNat []
structure Shows (L : List (List UInt8)) (has : Bool) (g t f : Int) : Prop where
  len : L.length = 2
  y : has = true → (hrB 0 (g % 2) (atL L (g % 2)) = true ∧ hrG 0 (g % 2) (atL L (g % 2)) = g ∧ hrL 0 (g % 2) (atL L (g % 2)) = t ∧ hrF 0 (g % 2) (atL L (g % 2)) = f) ∧
    (hrB 0 (1 - g % 2) (atL L (1 - g % 2)) = false ∨ hrG 0 (1 - g % 2) (atL L (1 - g % 2)) < g)
  n : has = false → hrB 0 0 (atL L 0) = false ∧ hrB 0 1 (atL L 1) = false ∧ g = 0 ∧ t = 0 ∧ f = 0
theorem ld_at (L : List (List UInt8)) : (∀ f, ldA f L [] 0 = f 0 0 (atL L 0)) ∧ (∀ f, ldZ f L [] 0 = f 0 1 (atL L 1)) ∧ ldP L [] 0 = hrB 0 0 (atL L 0) ∧ ldQ L [] 0 = hrB 0 1 (atL L 1) := ⟨fun _ => rfl, fun _ => rfl, rfl, rfl⟩
theorem shows_load {L : List (List UInt8)} {has : Bool} {g t f : Int} (h : Shows L has g t f) (hw : WidL L) : LoadIs L [] 0 g t f has 0 := by
  have hq : WidQ [] := ⟨(fun q hq => by cases hq), by decide⟩
  have h0 : (hwI (L.length : Int) 0 != 0) = false := by rw [h.len]; rfl
  have he : hwI (L.length : Int) 0 = 0 := by rw [h.len]; rfl
  obtain ⟨eA, eZ, eP, eQ⟩ := ld_at L
  have hT : ∀ b, ldT L [] 0 = b → (∀ F, ldV F L [] 0 = bif b then F 0 1 (atL L 1) else bif hrB 0 0 (atL L 0) then F 0 0 (atL L 0) else 0) ∧ ldB L [] 0 = bif b then true else hrB 0 0 (atL L 0) := fun b hb => by
    constructor
    · intro F; unfold ldV; rw [h0, cond_false, hb, eP, eA, eZ]
    · unfold ldB; rw [h0, cond_false, hb, eP]
  have hTe : ldT L [] 0 = bif hrB 0 0 (atL L 0) then hrB 0 1 (atL L 1) && decide (hrG 0 1 (atL L 1) > hrG 0 0 (atL L 0)) else hrB 0 1 (atL L 1) && true := by
    unfold ldT; rw [eP, eQ, eZ, eA]
  have fin : ∀ b, ldT L [] 0 = b → (∀ F, (bif b then F 0 1 (atL L 1) else bif hrB 0 0 (atL L 0) then F 0 0 (atL L 0) else (0 : Int)) = ldV F L [] 0) ∧ (bif b then true else hrB 0 0 (atL L 0)) = ldB L [] 0 := fun b hb => ⟨fun F => ((hT b hb).1 F).symm, (hT b hb).2.symm⟩
  cases has with
  | true =>
    obtain ⟨⟨y1, y2, y3, y4⟩, y5⟩ := h.y rfl
    rcases (show g % 2 = 0 ∨ g % 2 = 1 by omega) with hm | hm
    · rw [hm] at y1 y2 y3 y4 y5
      have hb : ldT L [] 0 = false := by
        rw [hTe, y1, cond_true, y2]
        rcases y5 with y5 | y5
        · rw [show (1 : Int) - 0 = 1 from rfl] at y5; rw [y5]; rfl
        · rw [show (1 : Int) - 0 = 1 from rfl] at y5; rw [decide_eq_false (by omega), Bool.and_false]
      obtain ⟨f1, f2⟩ := hT _ hb
      refine ⟨hw, hq, by rw [h.len]; decide, ?_, ?_, ?_, ?_, he⟩
      · rw [f1, cond_false, y1, cond_true, y2]
      · rw [f1, cond_false, y1, cond_true, y3]
      · rw [f1, cond_false, y1, cond_true, y4]
      · rw [f2, cond_false, y1]
    · rw [hm] at y1 y2 y3 y4 y5
      rw [show (1 : Int) - 1 = 0 from rfl] at y5
      have hb : ldT L [] 0 = true := by
        rw [hTe, y1, y2]
        rcases y5 with y5 | y5
        · rw [y5]; rfl
        · rw [decide_eq_true (by omega)]; cases hrB 0 0 (atL L 0) <;> rfl
      obtain ⟨f1, f2⟩ := hT _ hb
      refine ⟨hw, hq, by rw [h.len]; decide, ?_, ?_, ?_, ?_, he⟩
      · rw [f1, cond_true, y2]
      · rw [f1, cond_true, y3]
      · rw [f1, cond_true, y4]
      · rw [f2, cond_true]
  | false =>
    obtain ⟨n1, n2, rfl, rfl, rfl⟩ := h.n rfl
    have hb : ldT L [] 0 = false := by rw [hTe, n1, n2]; rfl
    obtain ⟨f1, f2⟩ := hT _ hb
    refine ⟨hw, hq, by rw [h.len]; decide, ?_, ?_, ?_, ?_, he⟩
    · rw [f1, n1]; rfl
    · rw [f1, n1]; rfl
    · rw [f1, n1]; rfl
    · rw [f2, n1]; rfl
theorem atL_set {L : List (List UInt8)} (hl : L.length = 2) {p x : Int} (hp : p = 0 ∨ p = 1) (hx : x = 0 ∨ x = 1) (y : List UInt8) : atL (L.set p.toNat y) x = if x = p then y else atL L x := by
  unfold atL
  rw [List.getD_eq_getElem?_getD, List.getElem?_set, List.getD_eq_getElem?_getD]
  rcases hp with rfl | rfl <;> rcases hx with rfl | rfl <;> simp [hl]
theorem shows_new {L : List (List UInt8)} {has : Bool} {g t f ep t' f' : Int} (h : Shows L has g t f) (hg : 0 ≤ g) (hr : HRan ep (g + 1) t' f') : Shows (L.set ((g + 1) % 2).toNat (hs ep (g + 1) t' f')) true (g + 1) t' f' := by
  have hp : (g + 1) % 2 = 0 ∨ (g + 1) % 2 = 1 := by omega
  have hq : 1 - (g + 1) % 2 = 0 ∨ 1 - (g + 1) % 2 = 1 := by omega
  refine ⟨by rw [List.length_set]; exact h.len, fun _ => ⟨?_, ?_⟩, fun h => by cases h⟩
  · rw [atL_set h.len hp hp, if_pos rfl]
    exact hs_read hr rfl
  · rw [atL_set h.len hp hq, if_neg (by omega)]
    have e : 1 - (g + 1) % 2 = g % 2 := by omega
    rw [e]
    cases has with
    | true => exact .inr (by rw [(h.y rfl).1.2.1]; omega)
    | false =>
      obtain ⟨n1, n2, rfl, _, _⟩ := h.n rfl
      exact .inl n1
theorem shows_torn {L : List (List UInt8)} {has : Bool} {g t f : Int} (h : Shows L has g t f) {z : List UInt8} (hz : ¬ isSec z) : Shows (L.set ((g + 1) % 2).toNat z) has g t f := by
  have hp : (g + 1) % 2 = 0 ∨ (g + 1) % 2 = 1 := by omega
  refine ⟨by rw [List.length_set]; exact h.len, fun hh => ⟨?_, ?_⟩, fun hh => ?_⟩
  · rw [atL_set h.len hp (by omega), if_neg (by omega)]
    exact (h.y hh).1
  · rw [atL_set h.len hp (by omega), if_pos (by omega)]
    exact .inl (hr_none hz)
  · obtain ⟨n1, n2, n3, n4, n5⟩ := h.n hh
    refine ⟨?_, ?_, n3, n4, n5⟩
    · rw [atL_set h.len hp (.inl rfl)]; split
      · exact hr_none hz
      · exact n1
    · rw [atL_set h.len hp (.inr rfl)]; split
      · exact hr_none hz
      · exact n2
def hTl (d : HDo) : Int := IntKind.u64.wrap ((BitVec.ofInt IntKind.u64.bits d.t &&& BitVec.ofInt IntKind.u64.bits 1099511627775).toNat : Int)
def hFl (d : HDo) : Int := IntKind.u64.wrap ((BitVec.ofInt IntKind.u64.bits d.f &&& BitVec.ofInt IntKind.u64.bits 255).toNat : Int)
def hGn (x : HKS) : Int := IntKind.u64.wrap (x.sg + 1)
def kE (d : HDo) (x : HKS) : Int := svE x.s 0 x.ep (hGn x) (hTl d) (hFl d)
def kS1 (d : HDo) (x : HKS) : DS := svS x.s 0 x.ep (hGn x) (hTl d) (hFl d)
def kLive (x : HKS) : Bool := decide ((x.s.L.length : Int) > 0) && !x.s.off
def kpS (d : HDo) (x : HKS) : HKS :=
  bif d.kind == 0 then
    bif kE d x == 0 then ⟨kS1 d x, x.ep, hGn x, hTl d, hFl d, true, x.mg, x.mt, x.mf, x.db⟩
    else bif kE d x == 7 && kLive x then ⟨kS1 d x, x.ep, x.sg, x.st, x.sf, x.has, hGn x, hTl d, hFl d, true⟩
    else ⟨kS1 d x, x.ep, x.sg, x.st, x.sf, x.has, x.mg, x.mt, x.mf, x.db⟩
  else bif d.kind == 2 then ⟨fuS x.s.L.length d.n x.s, x.ep, x.sg, x.st, x.sf, x.has, x.mg, x.mt, x.mf, x.db⟩
  else bif d.kind == 3 then
    (fun s1 : DS => ⟨s1, IntKind.u64.wrap (x.ep + 1), ldV hrG s1.L s1.Q 0, ldV hrL s1.L s1.Q 0, ldV hrF s1.L s1.Q 0, ldB s1.L s1.Q 0, x.mg, x.mt, x.mf, false⟩) (crS d.ks d.n x.s)
  else x
structure HInv (k : Nat) (x : HKS) : Prop where
  d : DInv 2 (2 * k) x.s
  ep : 1 ≤ x.ep ∧ x.ep ≤ 1 + (k : Int)
  sg : 0 ≤ x.sg ∧ x.sg ≤ (k : Int)
  sh : Shows x.s.L x.has x.sg x.st x.sf
  ss : ∀ b ∈ x.s.L, SecI x.ep x.sg b
  q : x.s.Q = [] ∨ (x.s.off = true ∧ x.db = true ∧ x.mg = x.sg + 1 ∧ HRan x.ep x.mg x.mt x.mf ∧ x.s.Q = [(x.mg % 2, hs x.ep x.mg x.mt x.mf)])
section
variable {k : Nat} {x : HKS}
theorem HInv.gn (h : HInv k x) (hk : k ≤ 40) : hGn x = x.sg + 1 := u64w_id (by have := h.sg; omega)
theorem HInv.ran (h : HInv k x) (hk : k ≤ 40) (d : HDo) : HRan x.ep (hGn x) (hTl d) (hFl d) := by
  have := h.sg; have := h.ep
  have ht := u64and d.t 1099511627775 (by decide)
  have hf := u64and d.f 255 (by decide)
  refine ⟨by omega, by rw [h.gn hk]; omega, ht, ⟨hf.1, Int.le_trans hf.2 (by decide)⟩⟩
theorem HInv.save (h : HInv k x) (hk : k ≤ 40) (d : HDo) : SaveIs x.s 0 x.ep (hGn x) (hTl d) (hFl d) (kE d x) (kS1 d x) ∧ HInv (k + 1) (bif kE d x == 0 then ⟨kS1 d x, x.ep, hGn x, hTl d, hFl d, true, x.mg, x.mt, x.mf, x.db⟩
    else bif kE d x == 7 && kLive x then ⟨kS1 d x, x.ep, x.sg, x.st, x.sf, x.has, hGn x, hTl d, hFl d, true⟩
    else ⟨kS1 d x, x.ep, x.sg, x.st, x.sf, x.has, x.mg, x.mt, x.mf, x.db⟩) := by
  have hr := h.ran hk d
  have hgn := h.gn hk
  obtain ⟨t, ht⟩ : ∃ t, t = hTl d := ⟨_, rfl⟩
  obtain ⟨f, hf⟩ : ∃ f, f = hFl d := ⟨_, rfl⟩
  have hsg := h.sg
  have hep := h.ep
  have hy : okL (svP x.ep (hGn x) (hTl d) (hFl d)) = hs x.ep (hGn x) (hTl d) (hFl d) := rfl
  have hpm : hpI 0 (hGn x) = (x.sg + 1) % 2 := by rw [hpI_mod (by rw [hgn]; omega), hgn]
  have hlen := h.d.len
  have hT : svT x.s 0 x.ep (hGn x) (hTl d) (hFl d) = wrS 2 ((x.sg + 1) % 2) (hs x.ep (hGn x) (hTl d) (hFl d)) x.s := by
    unfold svT; rw [hlen, hpm, hy]
  have hK : svK (x.s.L.length : Int) 0 x.ep (hGn x) (hTl d) (hFl d) = 0 := by
    unfold svK
    rw [hlen, show (hwI ((2 : Nat) : Int) 0 != 0) = false from rfl, cond_false, (svW_bl hr.t hr.f).1, show ((0 : Int) != 0) = false from rfl, cond_false, hs_okN hr, cond_false]
  have hwr : wrongI ((2 : Nat) : Int) ((x.sg + 1) % 2) = 0 := by
    rcases (show (x.sg + 1) % 2 = 0 ∨ (x.sg + 1) % 2 = 1 by omega) with e | e <;> rw [e] <;> rfl
  have hl128 : ((hs x.ep (hGn x) (hTl d) (hFl d)).length : Int) = 128 := by rw [hs_len hr]; rfl
  have hB : wrB ((2 : Nat) : Int) ((x.sg + 1) % 2) ((hs x.ep (hGn x) (hTl d) (hFl d)).length : Int) = true := by unfold wrB; rw [hwr, hl128]; rfl
  have hX : svX x.s 0 x.ep (hGn x) (hTl d) (hFl d) = bif stOff x.s.off x.s.fd x.s.fu then 7 else 0 := by
    unfold svX wrE
    rw [hlen, hpm, hy, hwr, hl128]
    rfl
  have invW := wr_inv h.d (by decide) ((x.sg + 1) % 2) (hs x.ep (hGn x) (hTl d) (hFl d))
  have hS : kS1 d x = bif svX x.s 0 x.ep (hGn x) (hTl d) (hFl d) != 0 then wrS 2 ((x.sg + 1) % 2) (hs x.ep (hGn x) (hTl d) (hFl d)) x.s else flS 2 (wrS 2 ((x.sg + 1) % 2) (hs x.ep (hGn x) (hTl d) (hFl d)) x.s) := by
    unfold kS1 svS; rw [hK, hT, hlen]; rfl
  have hE : kE d x = bif svX x.s 0 x.ep (hGn x) (hTl d) (hFl d) != 0 then svX x.s 0 x.ep (hGn x) (hTl d) (hFl d) else flE ((2 : Nat) : Int) (wrS 2 ((x.sg + 1) % 2) (hs x.ep (hGn x) (hTl d) (hFl d)) x.s).off (wrS 2 ((x.sg + 1) % 2) (hs x.ep (hGn x) (hTl d) (hFl d)) x.s).fd (wrS 2 ((x.sg + 1) % 2) (hs x.ep (hGn x) (hTl d) (hFl d)) x.s).fu := by
    unfold kE svE; rw [hK, hT, hlen]; rfl
  refine ⟨⟨⟨by omega, by rw [hgn]; omega⟩, ⟨hr.t.1, Int.lt_of_le_of_lt hr.t.2 (by decide)⟩, ⟨hr.f.1, Int.lt_of_le_of_lt hr.f.2 (by decide)⟩, by have := h.d.k; omega, by rw [hT]; exact invW.wq (by omega), by rw [hT, hlen]; exact invW.at', rfl, rfl⟩, ?_⟩
  have wL : (wrS 2 ((x.sg + 1) % 2) (hs x.ep (hGn x) (hTl d) (hFl d)) x.s).L = x.s.L := rfl
  have wQ : (wrS 2 ((x.sg + 1) % 2) (hs x.ep (hGn x) (hTl d) (hFl d)) x.s).Q = bif !stOff x.s.off x.s.fd x.s.fu then x.s.Q ++ [((x.sg + 1) % 2, hs x.ep (hGn x) (hTl d) (hFl d))] else x.s.Q := by
    show wrQ _ _ _ _ _ _ _ = _
    unfold wrQ; rw [hB, Bool.true_and]
  have wO : (wrS 2 ((x.sg + 1) % 2) (hs x.ep (hGn x) (hTl d) (hFl d)) x.s).off = stOff x.s.off x.s.fd x.s.fu := by
    show wrOff _ _ _ _ _ _ = _
    unfold wrOff; rw [hB, cond_true]
  cases hD : stOff x.s.off x.s.fd x.s.fu with
  | true =>
    rw [hD] at hX wQ wO
    rw [hX] at hS hE
    have hS : kS1 d x = wrS 2 ((x.sg + 1) % 2) (hs x.ep (hGn x) (hTl d) (hFl d)) x.s := hS
    have hE : kE d x = 7 := hE
    rw [hE, show ((7 : Int) == 0) = false from rfl, cond_false, show ((7 : Int) == 7) = true from rfl, Bool.true_and]
    cases hl : kLive x with
    | true =>
      have hoff : x.s.off = false := by
        unfold kLive at hl; simp at hl; exact hl.2
      have hQ : x.s.Q = [] := h.q.resolve_right fun hh => by rw [hoff] at hh; cases hh.1
      rw [cond_true, hS]
      exact ⟨invW.mono, ⟨hep.1, by show x.ep ≤ _; omega⟩, ⟨hsg.1, by show x.sg ≤ _; omega⟩, h.sh, h.ss, .inl (by show _ = []; rw [wQ, hQ]; rfl)⟩
    | false =>
      rw [cond_false, hS]
      refine ⟨invW.mono, ⟨hep.1, by show x.ep ≤ _; omega⟩, ⟨hsg.1, by show x.sg ≤ _; omega⟩, h.sh, h.ss, ?_⟩
      rcases h.q with hq | ⟨q1, q2, q3, q4, q5⟩
      · exact .inl (by show _ = []; rw [wQ, hq]; rfl)
      · exact .inr ⟨wO, q2, q3, q4, by show _ = _; rw [wQ]; exact q5⟩
  | false =>
    have hoff : x.s.off = false := by
      cases ho : x.s.off with
      | false => rfl
      | true => unfold stOff at hD; rw [ho] at hD; simp at hD
    have hQ : x.s.Q = [] := h.q.resolve_right fun hh => by rw [hoff] at hh; cases hh.1
    have hlive : kLive x = true := by unfold kLive; rw [hlen, hoff]; rfl
    rw [hD] at hX wQ wO
    rw [hX] at hS hE
    rw [hQ] at wQ
    have wQ : (wrS 2 ((x.sg + 1) % 2) (hs x.ep (hGn x) (hTl d) (hFl d)) x.s).Q = [((x.sg + 1) % 2, hs x.ep (hGn x) (hTl d) (hFl d))] := wQ
    have hS : kS1 d x = flS 2 (wrS 2 ((x.sg + 1) % 2) (hs x.ep (hGn x) (hTl d) (hFl d)) x.s) := hS
    obtain ⟨s1, hs1⟩ : ∃ s1, s1 = wrS 2 ((x.sg + 1) % 2) (hs x.ep (hGn x) (hTl d) (hFl d)) x.s := ⟨_, rfl⟩
    rw [← hs1] at hS hE wL wQ wO invW
    have invF := fl_inv invW (by decide) (by omega)
    have hE : kE d x = bif stOff s1.off s1.fd s1.fu then 7 else 0 := hE
    cases hD2 : stOff s1.off s1.fd s1.fu with
    | true =>
      rw [hD2] at hE
      have hE : kE d x = 7 := hE
      have fE : flE ((2 : Nat) : Int) s1.off s1.fd s1.fu = 7 := by unfold flE; rw [hD2]; rfl
      rw [hE, show ((7 : Int) == 0) = false from rfl, cond_false, hlive, show ((7 : Int) == 7 && true) = true from rfl, cond_true, hS]
      have fL : (flS 2 s1).L = x.s.L := by show flL _ _ _ = _; unfold flL; rw [fE]; exact wL
      have fQ : (flS 2 s1).Q = [((x.sg + 1) % 2, hs x.ep (hGn x) (hTl d) (hFl d))] := by show flP _ _ = _; unfold flP; rw [fE]; exact wQ
      have fO : (flS 2 s1).off = true := by unfold flS flOff; exact hD2
      refine ⟨invF, ⟨hep.1, by show x.ep ≤ _; omega⟩, ⟨hsg.1, by show x.sg ≤ _; omega⟩, by show Shows (flS 2 s1).L _ _ _ _; rw [fL]; exact h.sh, by show ∀ b ∈ (flS 2 s1).L, _; rw [fL]; exact h.ss, .inr ⟨fO, rfl, hgn, hr, ?_⟩⟩
      show (flS 2 s1).Q = [(hGn x % 2, _)]
      rw [fQ, hgn]
    | false =>
      rw [hD2] at hE
      have hE : kE d x = 0 := hE
      have fE : flE ((2 : Nat) : Int) s1.off s1.fd s1.fu = 0 := by unfold flE; rw [hD2]; rfl
      rw [hE, show ((0 : Int) == 0) = true from rfl, cond_true, hS]
      have fL : (flS 2 s1).L = x.s.L.set ((x.sg + 1) % 2).toNat (hs x.ep (hGn x) (hTl d) (hFl d)) := by
        show flL _ _ _ = _
        unfold flL; rw [fE, wQ, wL]; rfl
      have fQ : (flS 2 s1).Q = [] := by show flP _ _ = _; unfold flP; rw [fE]; rfl
      refine ⟨invF, ⟨hep.1, by show x.ep ≤ _; omega⟩, ⟨by show 0 ≤ hGn x; omega, by show hGn x ≤ _; omega⟩, ?_, ?_, .inl fQ⟩
      · show Shows (flS 2 s1).L true (hGn x) _ _
        rw [fL, hgn]
        rw [hgn] at hr
        exact shows_new h.sh hsg.1 hr
      · show ∀ b ∈ (flS 2 s1).L, SecI x.ep (hGn x) b
        rw [fL]
        intro b hb
        rcases List.mem_or_eq_of_mem_set hb with hb | rfl
        · exact (h.ss b hb).gen (by omega)
        · exact hs_secI hr (by omega)
theorem HInv.fuse (h : HInv k x) {n : Int} (hn : n ≤ 9223372036854775807) : HInv (k + 1) ⟨fuS x.s.L.length n x.s, x.ep, x.sg, x.st, x.sf, x.has, x.mg, x.mt, x.mf, x.db⟩ := by
  have hep := h.ep
  have hsg := h.sg
  refine ⟨?_, ⟨hep.1, by show x.ep ≤ _; omega⟩, ⟨hsg.1, by show x.sg ≤ _; omega⟩, h.sh, h.ss, h.q⟩
  show DInv 2 (2 * (k + 1)) (fuS x.s.L.length n x.s)
  rw [h.d.len]
  exact (fu_inv h.d (by decide) hn).mono
theorem HInv.none (h : HInv k x) : HInv (k + 1) x :=
  ⟨h.d.mono.mono, ⟨h.ep.1, by have := h.ep; omega⟩, ⟨h.sg.1, by have := h.sg; omega⟩, h.sh, h.ss, h.q⟩
theorem HInv.crash (h : HInv k x) (hk : k ≤ 40) (ks : List Int) (tn : Int) : CrashIs x.s ks tn (crS ks tn x.s) ∧ ∃ has g t f, LoadIs (crS ks tn x.s).L (crS ks tn x.s).Q 0 g t f has 0 ∧
    ((has = x.has ∧ g = x.sg ∧ t = x.st ∧ f = x.sf) ∨ (x.db = true ∧ has = true ∧ g = x.mg ∧ t = x.mt ∧ f = x.mf)) ∧
    HInv (k + 1) ⟨crS ks tn x.s, IntKind.u64.wrap (x.ep + 1), g, t, f, has, x.mg, x.mt, x.mf, false⟩ := by
  have hep := h.ep
  have hsg := h.sg
  have invC := cr_inv h.d (by omega) ks tn
  have hw : WidL (crS ks tn x.s).L := invC.L
  have e1 : IntKind.u64.wrap (x.ep + 1) = x.ep + 1 := u64w_id (by omega)
  rw [e1]
  have hd := h.d
  refine ⟨⟨hd.wq (by omega), by rw [hd.len]; exact hd.at', by rw [hd.len]; decide, rfl⟩, ?_⟩
  -- what is there behind it
  have key : ∃ has g t f, Shows (crS ks tn x.s).L has g t f ∧ ((has = x.has ∧ g = x.sg ∧ t = x.st ∧ f = x.sf) ∨ (x.db = true ∧ has = true ∧ g = x.mg ∧ t = x.mt ∧ f = x.mf)) ∧ (0 ≤ g ∧ g ≤ (k : Int) + 1) ∧ ∀ b ∈ (crS ks tn x.s).L, SecI (x.ep + 1) g b := by
    rcases h.q with hq | ⟨q1, q2, q3, q4, q5⟩
    · have hL : (crS ks tn x.s).L = x.s.L := by show crD _ _ _ _ = _; rw [hq]; rfl
      rw [hL]
      exact ⟨x.has, x.sg, x.st, x.sf, h.sh, .inl ⟨rfl, rfl, rfl, rfl⟩, by omega, fun b hb => (h.ss b hb).up⟩
    · obtain ⟨N, hN⟩ : ∃ N, N = crN x.s.Q ks tn 0 := ⟨_, rfl⟩
      have hN128 : N ≤ 128 := by rw [hN]; unfold crN; have := kpI_in (x.s.Q.length : Int) ((0 : Nat) : Int) tn ks; omega
      have hL : (crS ks tn x.s).L = x.s.L.set ((x.sg + 1) % 2).toNat ((hs x.ep x.mg x.mt x.mf).take N ++ (atL x.s.L ((x.sg + 1) % 2)).drop N) := by
        show crQ x.s.L x.s.Q ks tn x.s.Q.length = _
        rw [hN]
        rw [q5]
        show x.s.L.set (x.mg % 2).toNat ((hs x.ep x.mg x.mt x.mf).take _ ++ (x.s.L.getD (x.mg % 2).toNat []).drop _) = _
        rw [q3]
        rfl
      rw [hL]
      obtain ⟨b, hb⟩ : ∃ b, b = atL x.s.L ((x.sg + 1) % 2) := ⟨_, rfl⟩
      rw [← hb]
      have hm : b ∈ x.s.L := by
        rw [hb]; unfold atL
        rw [List.getD_eq_getElem?_getD, List.getElem?_eq_getElem (by rw [hd.len]; omega)]
        exact List.getElem_mem ..
      have hbI := h.ss b hm
      obtain ⟨hz, z1, z2, z3⟩ := torn_or hbI q4 (by omega) (by omega) N hN128
      have q4' := q4
      rw [q3] at q4'
      have hup : ∀ {g' : Int} {b' : List UInt8}, b' ∈ x.s.L.set ((x.sg + 1) % 2).toNat ((hs x.ep x.mg x.mt x.mf).take N ++ b.drop N) → SecI (x.ep + 1) g' b' := fun {g' b'} hb' => by
        rcases List.mem_or_eq_of_mem_set hb' with hb' | rfl
        · exact (h.ss b' hb').up
        · obtain ⟨c, c1, c2⟩ := z3
          exact ⟨z1, z2, ⟨c, c1, by omega⟩, .inl ⟨c, c1, by omega⟩⟩
      rcases hz with hz | hz | hz
      · rw [hz] at hup ⊢
        have hset : x.s.L.set ((x.sg + 1) % 2).toNat b = x.s.L := by
          apply List.ext_getElem?
          intro j
          rw [List.getElem?_set]
          split
          · rename_i hj
            subst hj
            rw [if_pos (by rw [hd.len]; omega), hb]
            unfold atL
            rw [List.getD_eq_getElem?_getD, List.getElem?_eq_getElem (by rw [hd.len]; omega)]
            rfl
          · rfl
        exact ⟨x.has, x.sg, x.st, x.sf, by rw [hset]; exact h.sh, .inl ⟨rfl, rfl, rfl, rfl⟩, by omega, fun b' hb' => hup hb'⟩
      · rw [hz] at hup ⊢
        refine ⟨true, x.mg, x.mt, x.mf, ?_, .inr ⟨q2, rfl, rfl, rfl, rfl⟩, by omega, fun b' hb' => hup hb'⟩
        have := shows_new h.sh hsg.1 q4'
        have e3 : x.sg + 1 = x.mg := q3.symm
        rw [e3] at this
        rw [e3]
        exact this
      · exact ⟨x.has, x.sg, x.st, x.sf, shows_torn h.sh hz, .inl ⟨rfl, rfl, rfl, rfl⟩, by omega, fun b' hb' => hup hb'⟩
  obtain ⟨has, g, t, f, k1, k2, k3, k4⟩ := key
  refine ⟨has, g, t, f, shows_load k1 hw, k2, ?_⟩
  exact ⟨invC.mono, ⟨by show 1 ≤ x.ep + 1; omega, by show x.ep + 1 ≤ _; omega⟩, ⟨k3.1, by show g ≤ _; omega⟩, k1, k4, .inl rfl⟩
end
def hkS (l : List HDo) (x : HKS) : Nat → HKS
  | 0 => x
  | k + 1 => kpS (l.getD k HDo.zero) (hkS l x k)
def hk0 : HKS := ⟨⟨hL0, [], 0, false, false⟩, 1, 0, 0, 0, false, 0, 0, 0, false⟩
theorem hk0_inv : HInv 0 hk0 := by
  refine ⟨new0_inv 2, by decide, by decide, ⟨rfl, fun h => (by cases h), fun _ => ⟨by decide +kernel, by decide +kernel, rfl, rfl, rfl⟩⟩, fun b hb => ?_, .inl rfl⟩
  have hb : b = sec0 := List.eq_of_mem_replicate hb
  subst hb
  refine ⟨by decide +kernel, fun j hj => ?_, ⟨0, by decide +kernel, by decide⟩, .inl ⟨0, by decide +kernel, by decide⟩⟩
  match j, hj with
  | 0, _ => exact ⟨by decide +kernel, by decide +kernel⟩
  | 1, _ => exact ⟨by decide +kernel, by decide +kernel⟩
def HDoOk (l : List HDo) : Prop := ∀ d ∈ l, d.n ≤ 9223372036854775807
theorem hdz {l : List HDo} (h : HDoOk l) (k : Nat) : (l.getD k HDo.zero).n ≤ 9223372036854775807 := by
  rw [List.getD_eq_getElem?_getD]
  cases hk : l[k]? with
  | none => decide
  | some d => exact h d (List.mem_of_getElem? hk)
theorem kpS_inv {k : Nat} {x : HKS} (h : HInv k x) (hk : k ≤ 40) {d : HDo} (hd : d.n ≤ 9223372036854775807) : HInv (k + 1) (kpS d x) := by
  unfold kpS
  cases d.kind == 0
  · cases d.kind == 2
    · cases d.kind == 3
      · exact h.none
      · obtain ⟨_, has, g, t, f, h1, _, h2⟩ := h.crash hk d.ks d.n
        have e1 := h1.g; have e2 := h1.t; have e3 := h1.f; have e4 := h1.b
        simp only [cond_true, cond_false, e1, e2, e3, e4]
        exact h2
    · exact h.fuse hd
  · exact (h.save hk d).2
theorem hkS_inv0 {l : List HDo} {x0 : HKS} (hl : HDoOk l) (h0 : HInv 0 x0) : ∀ k, k ≤ 41 → HInv k (hkS l x0 k)
  | 0, _ => h0
  | k + 1, hk => kpS_inv (hkS_inv0 hl h0 k (by omega)) (by omega) (hdz hl k)
end Go.Proofs.Ytonomiljclemnaa
