/- The reader of bits: Text, whatever stands. -/
import Derived.Test.YtlfnpbpbgncbpaaR6
set_option linter.unusedVariables false
set_option linter.unusedSimpArgs false
namespace Go.Proofs.Ytlfnpbpbgncbpaa
open Go.RowKit

set_option maxRecDepth 100000 in
set_option maxHeartbeats 2000000 in
theorem rtext_err (rb B : Nat) (l : List UInt8) (at' : Nat) (err : Int) (w : World) (h : RdIs w B rb l at' err) (hl : l.length ≤ 100000) (ha : at' ≤ 8 * l.length) (he : getE l at' err 16 ≠ 0) :
    Calls Try.prog 30 #[.pointer (some ⟨rb, 0, none⟩)] w fun e w' => e = .returned (.string ⟨#[]⟩) ∧ RdIs w' B rb l (getAt l at' err 16) (getE l at' err 16) ∧ Mod (fun k => k = rb) w w' := by
  have hg := rget_c rb B l at' err 16 w h (by omega) ha
  have hv : getV l at' err 16 = 0 := by
    unfold getV getE at *
    rw [if_neg]
    rintro ⟨h0, _, _, h3⟩
    apply he
    rw [if_neg (by simp [h0]), if_neg (by omega), if_neg (by omega)]
  rw [hv] at hg
  generalize getE l at' err 16 = e1 at he hg ⊢
  generalize getAt l at' err 16 = a1 at hg ⊢
  have HG := Lib.hid hg
  have hb : (e1 != 0) = true := by simpa using he
  have hb2 : (e1 == 0) = false := by simpa using he
  clear hg he h hv ha hl
  go_enter Try.func30, Try.ntmps30
  go_wp2_with fail
  refine HG.out.mono ?_
  rintro e w1 ⟨rfl, h1, hm1⟩
  have H1 := Lib.hid h1
  have HM1 := Lib.hid hm1
  clear h1 hm1
  go_wp2_with fail
  refine (rerr_c rb B l a1 e1 w1 H1.out).mono ?_
  rintro e w2 ⟨rfl, rfl⟩
  go_wp2_with fail
  refine (rerr_c rb B l a1 e1 w1 H1.out).mono ?_
  rintro e w2 ⟨rfl, rfl⟩
  go_wp2
  go_ret
  exact ⟨rfl, H1.out, HM1.out⟩

set_option maxRecDepth 100000 in
set_option maxHeartbeats 2000000 in
theorem rtext_short (rb B : Nat) (l : List UInt8) (at' n : Nat) (w : World) (h : RdIs w B rb l at' 0) (hl : l.length ≤ 100000) (ha : at' + 16 ≤ 8 * l.length) (hn : n = val (bitsFrom l at' 16)) (hf : 8 * l.length < at' + 16 + 8 * n) :
    Calls Try.prog 30 #[.pointer (some ⟨rb, 0, none⟩)] w fun e w' => e = .returned (.string ⟨#[]⟩) ∧ RdIs w' B rb l (at' + 16) 3 ∧ Mod (fun k => k = rb) w w' := by
  have hn16 : n < 65536 := by
    have h1 := val_lt (bitsFrom l at' 16)
    rw [bitsFrom_length (by omega)] at h1
    omega
  have hg := rget_ok rb B l at' 16 w h (by decide) ha (by omega)
  rw [← hn] at hg
  have HG := Lib.hid hg
  have HA := Lib.hid ha
  have HL := Lib.hid hl
  have hcv : IntKind.i64.wrap (n : Int) = (n : Int) := by rw [IntKind.wrap_i64]; omega
  have hmul : IntKind.i64.wrap (8 * (n : Int)) = 8 * (n : Int) := by rw [IntKind.wrap_i64]; omega
  have hnb : n ≤ 9223372036854775806 := by omega
  have hlt : (leftI l (at' + 16) 0 < 8 * (n : Int)) = True := eq_true (by rw [leftI_zero]; omega)
  clear hg hn hn16 h hf ha hl
  go_enter Try.func30, Try.ntmps30
  go_wp2_with fail
  refine HG.out.mono ?_
  rintro e w1 ⟨rfl, h1, hm1⟩
  have H1 := Lib.hid h1
  have HM1 := Lib.hid hm1
  clear h1 hm1
  go_wp2_with fail
  refine (rerr_c rb B l (at' + 16) 0 w1 H1.out).mono ?_
  rintro e w2 ⟨rfl, rfl⟩
  have hlf := rleft_c rb B l (at' + 16) 0 w1 H1.out (by have := HL.out; omega) HA.out
  generalize leftI l (at' + 16) 0 = lf at hlf hlt
  have HLF := Lib.hid hlf
  clear hlf
  go_wp2_with fail
  refine HLF.out.mono ?_
  rintro e w2 ⟨rfl, nd, rfl⟩
  have HX2 := Lib.hid (H1.out.ext ((Ext.refl w1).drewN nd))
  have HM2 := Lib.hid (HM1.out.drewN nd)
  generalize w1.drewN nd = w2 at HX2 HM2 ⊢
  have c3 := HX2.out.c3
  have f3 := HX2.out.fz 3
  have HE := Lib.hid (HX2.out.setErr 3)
  have HME : Hid (Mod (fun k => k = rb) w (w2.setCell ⟨rb, 3, none⟩ (.int .i64 3))) := Lib.hid (Mod.setCell (F := fun k => k = rb) (p := ⟨rb, 3, none⟩) HM2.out (fun _ => rfl) _)
  go_upto_region 4 with fail
  generalize w2.setCell ⟨rb, 3, none⟩ (.int .i64 3) = w3 at HE HME ⊢
  go_wp2_with fail
  refine (rerr_c rb B l (at' + 16) 3 w3 HE.out).mono ?_
  rintro e w4 ⟨rfl, rfl⟩
  go_wp2
  go_ret
  exact ⟨rfl, HE.out, HME.out⟩

end Go.Proofs.Ytlfnpbpbgncbpaa
