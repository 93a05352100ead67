/- The writer of bits, whatever stands already: one call behind another. -/
import Derived.Test.YtlfnpbpbgncbpaaB13
import Derived.Test.YtlfnpbpbgncbpaaB14
set_option linter.unusedVariables false
set_option linter.unusedSimpArgs false
namespace Go.Proofs.Ytlfnpbpbgncbpaa
open Go.RowKit

def putL (bl : List Bool) (err : Int) (x : Nat) (n : Int) : List Bool := if err = 0 ∧ fitsN x n then bl ++ bitsOf x n.toNat else bl
def putE (err : Int) (x : Nat) (n : Int) : Int := if err = 0 ∧ ¬ fitsN x n then 2 else err
theorem wput_c (wb B : Nat) (bl : List Bool) (err : Int) (x : Nat) (n : Int) (w : World) (h : WrIs w B wb bl err) (hx : x < 18446744073709551616) (hi : -9223372036854775808 ≤ n ∧ n ≤ 9223372036854775807) (hl : bl.length ≤ 549755813888) :
    Calls Try.prog 11 #[.pointer (some ⟨wb, 0, none⟩), .int .u64 x, .int .i64 n] w fun r w' => r = .returned (.pointer (some ⟨wb, 0, none⟩)) ∧ WrIs w' B wb (putL bl err x n) (putE err x n) ∧ WrMod wb w w' := by
  by_cases h0 : err = 0
  · subst h0
    by_cases hf : fitsN x n
    · have hf' := hf
      obtain ⟨f1, f2, f3⟩ := hf
      obtain ⟨m, rfl⟩ := Int.eq_ofNat_of_zero_le f1
      rw [putL, putE, if_pos ⟨rfl, hf'⟩, if_neg (fun h => h.2 hf'), Int.toNat_natCast]
      rw [Int.toNat_natCast] at f3
      exact put_ok wb B bl x m w h (by omega) f3 (by omega)
    · rw [putL, putE, if_neg (fun h => hf h.2), if_pos ⟨rfl, hf⟩]
      exact put_bad wb B bl x n w h hx hf hi
  · rw [putL, putE, if_neg (fun h => h0 h.1), if_neg (fun h => h0 h.1)]
    refine (put_err wb B bl err x n w h h0).mono ?_
    rintro r w' ⟨h1, rfl⟩
    exact ⟨h1, h, WrMod.of_ext (Ext.refl w) h.lt⟩

set_option maxRecDepth 100000 in
set_option maxHeartbeats 4000000 in
theorem wtext_err (wb B : Nat) (l : List Bool) (err : Int) (s : ByteArray) (w : World) (h : WrIs w B wb l err) (he : err ≠ 0) (hs : s.size < 65536) :
    Calls Try.prog 14 #[.pointer (some ⟨wb, 0, none⟩), .string s] w fun r w' => r = .returned (.pointer (some ⟨wb, 0, none⟩)) ∧ w = w' := by
  have c0 := h.c0
  have H := Lib.hid h; clear h
  obtain ⟨n, hn⟩ : ∃ n, n = s.size := ⟨_, rfl⟩
  have hn2 : n < 65536 := by omega
  have HN := Lib.hid hn
  have hsi : ¬ (65536 : Int) ≤ (s.size : Int) := by omega
  have hsi2 : ((65536 : Int) ≤ (s.size : Int)) = False := eq_false hsi
  clear hsi
  have HN2 := Lib.hid hn2
  have HE := Lib.hid he
  clear hs hn2 hn he
  have hwr : IntKind.u64.wrap (s.size : Int) = (s.size : Int) := by rw [IntKind.wrap_u64]; have := HN.out; have := HN2.out; omega
  go_enter Try.func14, Try.ntmps14
  go_wp2_with fail
  refine (put_err wb B l err s.size 16 w H.out HE.out).mono ?_
  rintro e w1 ⟨rfl, rfl⟩
  clear c0
  go_wp2_with fail
  have hsz : s.size = n := HN.out.symm
  rw [hsz]
  have hnb : n ≤ 9223372036854775806 := by have := HN2.out; omega
  go_loopw [28] (fun i wr => ∃ k : Nat, k ≤ n ∧ i = .int .i64 k ∧ w = wr) (fun i _ => n - (intOf i).toNat)
  case atStart => exact ⟨0, Nat.zero_le _, rfl, rfl⟩
  case round =>
    obtain ⟨k, hk, rfl, rfl⟩ := hrel
    by_cases hlt : k < n
    · have hki : (k : Int) < (n : Int) := by omega
      have hks : k < s.size := by rw [hsz]; exact hlt
      have HB8 : Hid ((s[k]'hks).toNat < 256) := Lib.hid (UInt8.toNat_lt _)
      go_wp2_with fail
      rw [IntKind.wrap_u64, Int.emod_eq_of_lt (by omega) (by have := HB8.out; omega)]
      refine (put_err wb B l err (s[k]).toNat 8 w H.out HE.out).mono ?_
      rintro e w2 ⟨rfl, rfl⟩
      go_wp2_with fail
      go_roundw
      case rel => exact ⟨k + 1, by omega, by go_num, trivial⟩
      case measure => simp [intOf]; omega
    · have hkn : k = n := by omega
      subst hkn
      go_wp2_with fail
      go_ret
      exact ⟨rfl, rfl⟩

def textL (bl : List Bool) (err : Int) (s : ByteArray) : List Bool := if err = 0 then bl ++ textBits s.data.toList else bl
theorem wtext_c (wb B : Nat) (bl : List Bool) (err : Int) (s : ByteArray) (w : World) (h : WrIs w B wb bl err) (hs : s.size < 65536) (hl : bl.length ≤ 549755813888) :
    Calls Try.prog 14 #[.pointer (some ⟨wb, 0, none⟩), .string s] w fun r w' => r = .returned (.pointer (some ⟨wb, 0, none⟩)) ∧ WrIs w' B wb (textL bl err s) err ∧ WrMod wb w w' := by
  by_cases h0 : err = 0
  · subst h0
    rw [textL, if_pos rfl]
    exact wtext_ok wb B bl s w h hs hl
  · rw [textL, if_neg h0]
    refine (wtext_err wb B bl err s w h h0 hs).mono ?_
    rintro r w' ⟨h1, rfl⟩
    exact ⟨h1, h, WrMod.of_ext (Ext.refl w) h.lt⟩

/-- The bits of a call. -/
def seg (d : BDo) : List Bool := if d.kind = 0 then bitsOf d.x d.n.toNat else textBits d.s.data.toList
def stepL (bl : List Bool) (err : Int) (d : BDo) : List Bool := if d.kind = 0 then putL bl err d.x d.n else textL bl err d.s
def stepE (err : Int) (d : BDo) : Int := if d.kind = 0 then putE err d.x d.n else err
theorem bitsOf_toNat_le (x : Nat) (n : Int) (h : fitsN x n) : (bitsOf x n.toNat).length ≤ 64 := by
  rw [bitsOf_length]; obtain ⟨h1, h2, _⟩ := h; omega
theorem textBits_length (s : List UInt8) : (textBits s).length = 16 + 8 * s.length := by
  rw [textBits, List.length_append, bitsOf_length, bitsAll_length]
theorem stepL_length (bl : List Bool) (err : Int) (d : BDo) (hd : d.s.size ≤ 40) : (stepL bl err d).length ≤ bl.length + 400 := by
  unfold stepL putL textL
  split
  · split
    · rename_i h; rw [List.length_append]; have := bitsOf_toNat_le d.x d.n h.2; omega
    · omega
  · split
    · rw [List.length_append, textBits_length]
      have : d.s.data.toList.length = d.s.size := rfl
      omega
    · omega
/-- All fit that were put. -/
def okD (d : BDo) : Prop := d.kind = 0 → fitsN d.x d.n
/-- What the rounds keep. -/
def Wrote (ds : List BDo) (bl : List Bool) (err : Int) : Prop := (err = 0 ∧ bl = ds.flatMap seg ∧ ∀ d ∈ ds, okD d) ∨ err = 2
theorem Wrote.step {ds : List BDo} {bl : List Bool} {err : Int} (h : Wrote ds bl err) (d : BDo) : Wrote (ds ++ [d]) (stepL bl err d) (stepE err d) := by
  rcases h with ⟨rfl, rfl, h⟩ | rfl
  · by_cases hk : d.kind = 0
    · by_cases hf : fitsN d.x d.n
      · refine .inl ⟨?_, ?_, ?_⟩
        · rw [stepE, if_pos hk, putE, if_neg (fun h => h.2 hf)]
        · rw [stepL, if_pos hk, putL, if_pos ⟨rfl, hf⟩, List.flatMap_append]; simp [seg, hk]
        · intro e he
          rcases List.mem_append.1 he with he | he
          · exact h e he
          · rw [List.mem_singleton] at he; subst he; exact fun _ => hf
      · exact .inr (by rw [stepE, if_pos hk, putE, if_pos ⟨rfl, hf⟩])
    · refine .inl ⟨?_, ?_, ?_⟩
      · rw [stepE, if_neg hk]
      · rw [stepL, if_neg hk, textL, if_pos rfl, List.flatMap_append]; simp [seg, hk]
      · intro e he
        rcases List.mem_append.1 he with he | he
        · exact h e he
        · rw [List.mem_singleton] at he; subst he; exact fun h => absurd h hk
  · refine .inr ?_
    unfold stepE putE
    split
    · rw [if_neg (by simp)]
    · rfl

theorem BRow.at {w : World} {B g n cap : Nat} {ds : List BDo} (h : w.ownsRow B 29 4 (.slice (some ⟨g, 0, none⟩) n cap) n (ds.flatMap BDo.cells)) {k : Nat} {d : BDo} (hd : ds[k]? = some d) (hn : n = ds.length) (j : Nat) (hj : j < 4) : w.cell? ⟨g, k * 4 + j, none⟩ = d.cells[j]? := by
  have hkl := (List.getElem?_eq_some_iff.1 hd).1
  rw [World.ownsRow.cellAt h _ (by omega)]
  have key : ∀ (ds : List BDo) (k : Nat), ds[k]? = some d → (ds.flatMap BDo.cells)[k * 4 + j]? = d.cells[j]? := by
    intro ds
    induction ds with
    | nil => intro k h; simp at h
    | cons x xs ih =>
      intro k h
      have hx : x.cells.length = 4 := rfl
      rw [List.flatMap_cons]
      cases k with
      | zero => simp at h; subst h; rw [List.getElem?_append_left (by omega), Nat.zero_mul, Nat.zero_add]
      | succ k => rw [List.getElem?_append_right (by omega), hx, show (k + 1) * 4 + j - 4 = k * 4 + j by omega]; exact ih k (by simpa using h)
  exact key ds k hd

end Go.Proofs.Ytlfnpbpbgncbpaa
