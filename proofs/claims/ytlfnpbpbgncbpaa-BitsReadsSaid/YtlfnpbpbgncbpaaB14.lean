/- The reader of bits: Text; the writer's Text behind an error. -/
import Derived.Test.YtlfnpbpbgncbpaaB11
import Derived.Test.YtlfnpbpbgncbpaaMake
set_option linter.unusedVariables false
set_option linter.unusedSimpArgs false
namespace Go.Proofs.Ytlfnpbpbgncbpaa
open Go.RowKit

/-- The bytes from here, so many. -/
def bytesFrom (l : List UInt8) (at' n : Nat) : List UInt8 := (List.range n).map fun i => UInt8.ofNat (val (bitsFrom l (at' + 8 * i) 8))
theorem bytesFrom_length (l : List UInt8) (at' n : Nat) : (bytesFrom l at' n).length = n := by simp [bytesFrom]
theorem bytesFrom_succ (l : List UInt8) (at' n : Nat) : bytesFrom l at' (n + 1) = bytesFrom l at' n ++ [UInt8.ofNat (val (bitsFrom l (at' + 8 * n) 8))] := by simp [bytesFrom, List.range_succ]

theorem byte_wrap {v : Nat} : (v : Int) % 256 = ((UInt8.ofNat v).toNat : Int) := by
  rw [UInt8.toNat_ofNat']; simp

set_option maxRecDepth 100000 in
set_option maxHeartbeats 4000000 in
theorem rtext_ok (rb B : Nat) (l : List UInt8) (at' n : Nat) (w : World) (h : RdIs w B rb l at' 0) (hn : n = val (bitsFrom l at' 16)) (hf : at' + 16 + 8 * n ≤ 8 * l.length) (hl : l.length ≤ 140737488355328) :
    Calls Try.prog 30 #[.pointer (some ⟨rb, 0, none⟩)] w fun e w' => e = .returned (.string ⟨(bytesFrom l (at' + 16) n).toArray⟩) ∧ RdIs w' B rb l (at' + 16 + 8 * n) 0 ∧ Mod (fun k => k = rb) w w' := by
  have hn16 : n < 65536 := by
    have h1 := val_lt (bitsFrom l at' 16)
    rw [bitsFrom_length (by omega)] at h1
    omega
  have hg := rget_ok rb B l at' 16 w h (by decide) (by omega) hl
  rw [← hn] at hg
  have HG := Lib.hid hg
  have HF := Lib.hid hf
  have HL := Lib.hid hl
  have HN := Lib.hid hn16
  have hcv : IntKind.i64.wrap (n : Int) = (n : Int) := by rw [IntKind.wrap_i64]; omega
  have hmul : IntKind.i64.wrap (8 * (n : Int)) = 8 * (n : Int) := by rw [IntKind.wrap_i64]; omega
  have hnb : n ≤ 9223372036854775806 := by omega
  have H := Lib.hid h
  clear hg hf hl hn hn16 h
  go_enter Try.func30, Try.ntmps30
  go_wp2_with fail
  refine HG.out.mono ?_
  rintro e w1 ⟨rfl, h1, hm1⟩
  have H1 := Lib.hid h1
  have HM1 := Lib.hid hm1
  clear h1 hm1
  go_wp2_with fail
  refine (rerr_c rb B l (at' + 16) 0 w1 H1.out).mono ?_
  rintro e w2 ⟨rfl, rfl⟩
  have hlf := rleft_c rb B l (at' + 16) 0 w1 H1.out HL.out (by have := HF.out; omega)
  have hlt : (leftI l (at' + 16) 0 < 8 * (n : Int)) = False := eq_false (by rw [leftI_zero]; have := HF.out; omega)
  generalize leftI l (at' + 16) 0 = lf at hlf hlt
  have HLF := Lib.hid hlf
  clear hlf
  go_wp2_with fail
  refine HLF.out.mono ?_
  rintro e w2 ⟨rfl, nd, rfl⟩
  have HX2 := Lib.hid (H1.out.ext ((Ext.refl w1).drewN nd))
  have HM2 := Lib.hid (HM1.out.drewN nd)
  generalize w1.drewN nd = w2 at HX2 HM2 ⊢
  go_wp2_with fail
  refine (rerr_c rb B l (at' + 16) 0 w2 HX2.out).mono ?_
  rintro e w3 ⟨rfl, rfl⟩
  obtain ⟨w4, hmk, hown4, hx4⟩ := make_bytes n (by have := HN.out; omega) w2
  obtain ⟨g, hg⟩ : ∃ g, g = w2.heap.size := ⟨_, rfl⟩
  rw [← hg] at hmk hown4
  have HRB : Hid (rb < g) := Lib.hid (by rw [hg]; exact HX2.out.lt)
  have HWG : Hid (w.heap.size ≤ g) := Lib.hid (by rw [hg]; exact HM2.out.size)
  have H4 := Lib.hid (HX2.out.ext hx4)
  have HM4 := Lib.hid (HM2.out.ext hx4)
  have HO4 := Lib.hid hown4
  clear hown4 hx4 hg
  go_wp2_with fail
  clear hmk
  go_loopw [29] (fun i wr => ∃ k : Nat, k ≤ n ∧ i = .int .i64 k ∧ RdIs wr B rb l (at' + 16 + 8 * k) 0 ∧ wr.ownsRow g 5 1 (.slice (some ⟨g, 0, none⟩) n n) n ((bytesFrom l (at' + 16) k ++ List.replicate (n - k) 0).map bv) ∧ Mod (fun k => k = rb) w wr) (fun i _ => n - (intOf i).toNat)
  case atStart => exact ⟨0, Nat.zero_le _, rfl, H4.out, by simpa [bytesFrom] using HO4.out, HM4.out⟩
  case round =>
    obtain ⟨k, hk, rfl, hr, ho, hm⟩ := hrel
    have HR := Lib.hid hr
    have HO := Lib.hid ho
    have HM := Lib.hid hm
    clear hr ho hm
    by_cases hlt : k < n
    · have hgt := rget_ok rb B l (at' + 16 + 8 * k) 8 _ HR.out (by decide) (by have := HF.out; omega) HL.out
      have hbs := bytesFrom_succ l (at' + 16) k
      generalize val (bitsFrom l (at' + 16 + 8 * k) 8) = v at hgt hbs
      have HGT := Lib.hid hgt
      have HBS := Lib.hid hbs
      clear hgt hbs
      go_wp2_with fail
      refine HGT.out.mono ?_
      rintro e w5 ⟨rfl, h5, hm5⟩
      have ho5 := owns_mod HO.out hm5 fun q hq e => by
        have := HRB.out
        have hq' : g = q := by simpa [Value.ownBlock] using hq
        omega
      have hcell : w5.cell? ⟨g, k, none⟩ = some (.int .u8 0) := by
        rw [World.ownsRow.cellAt ho5 _ (by omega)]
        rw [List.getElem?_map, List.getElem?_append_right (by rw [bytesFrom_length]; exact Nat.le_refl _), bytesFrom_length, Nat.sub_self, List.getElem?_replicate, if_pos (by omega)]
        rfl
      have hfz : w5.frozen? ⟨g, k, none⟩ = false := World.ownsRow.frozenAt ho5 _
      have H5 := Lib.hid h5
      have HM5 := Lib.hid (HM.out.trans hm5 fun _ h _ => h)
      have HO5 := Lib.hid ho5
      have hki : (k : Int) < (n : Int) := by omega
      clear h5 hm5 ho5
      go_wp2_with fail
      rw [byte_wrap]
      go_roundw
      case rel =>
        refine ⟨k + 1, by omega, by go_num, ?_, ?_, ?_⟩
        · have := H5.out.setOther HRB.out k (.int .u8 ((UInt8.ofNat v).toNat : Int))
          rwa [show at' + 16 + 8 * (k + 1) = at' + 16 + 8 * k + 8 by omega]
        · have := (World.ownsRow.stored HO5.out k (.int .u8 ((UInt8.ofNat v).toNat : Int))).1
          rw [HBS.out]
          have e : ((bytesFrom l (at' + 16) k ++ List.replicate (n - k) 0).map bv).set k (.int .u8 ((UInt8.ofNat v).toNat : Int)) = (bytesFrom l (at' + 16) k ++ [UInt8.ofNat v] ++ List.replicate (n - (k + 1)) 0).map bv := by
            rw [show n - k = n - (k + 1) + 1 by omega, List.replicate_succ, List.map_append, List.set_append_right _ _ (by simp [bytesFrom_length])]
            simp [bytesFrom_length, bv]
          rwa [e] at this
        · exact Mod.setCell (F := fun k => k = rb) (p := ⟨g, k, none⟩) HM5.out (fun hl => by have := HWG.out; have hl' : g < w.heap.size := hl; omega) _
      case measure => simp [intOf]; omega
    · have hkn : k = n := by omega
      have hconv := convert_bytes (v := .slice (some ⟨g, 0, none⟩) n n) (l := bytesFrom l (at' + 16) n) (w := wr) (by
        have := Rs.of_owns HO.out
        rw [hkn, Nat.sub_self, List.replicate_zero, List.append_nil] at this
        unfold Bs
        rwa [bytesFrom_length])
      have hkl : ((k : Int) < (n : Int)) = False := eq_false (by omega)
      have HK := Lib.hid hkn
      clear hlt hkn
      go_wp2_with fail
      go_ret
      refine ⟨rfl, ?_, HM.out⟩
      have := HR.out
      rwa [HK.out] at this

end Go.Proofs.Ytlfnpbpbgncbpaa
