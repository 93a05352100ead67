/- Messages, by the document. -/
import Derived.Test.YtklemhmdbfhcdaaM8

set_option linter.unusedVariables false
set_option linter.unusedSimpArgs false
namespace Go.Proofs.Ytklemhmdbfhcdaa
open Go.RowKit

set_option maxRecDepth 100000 in
theorem rsm_c (ty cl ss sq bo kd er f1 f2 d1 d2 : Int) (nm ot : ByteArray) (mo pl : Int) (da : ByteArray) (ve : Int) (en : List Ent) (v : Value) (ty' cl' ss' sq' bo' kd' er' f1' f2' d1' d2' : Int) (nm' ot' : ByteArray) (mo' pl' : Int) (da' : ByteArray) (ve' : Int) (en' : List Ent) (v' : Value) (w : World) (hv : Es w v en) (hv' : Es w v' en') : Calls Try.prog 12 #[.agg #[.int .i64 ty, .int .i64 cl, .int .u64 ss, .int .u64 sq, .int .u64 bo, .int .i64 kd, .int .i64 er, .int .i64 f1, .int .i64 f2, .int .i64 d1, .int .i64 d2, .string nm, .string ot, .int .i64 mo, .int .i64 pl, .string da, .int .u64 ve, v], .agg #[.int .i64 ty', .int .i64 cl', .int .u64 ss', .int .u64 sq', .int .u64 bo', .int .i64 kd', .int .i64 er', .int .i64 f1', .int .i64 f2', .int .i64 d1', .int .i64 d2', .string nm', .string ot', .int .i64 mo', .int .i64 pl', .string da', .int .u64 ve', v']] w fun e w' => e = .returned (.bool (sameR (⟨ty, cl, ss, sq, bo, kd, er, f1, f2, d1, d2, nm, ot, mo, pl, da, ve, en⟩ : Msg) (⟨ty', cl', ss', sq', bo', kd', er', f1', f2', d1', d2', nm', ot', mo', pl', da', ve', en'⟩ : Msg))) ∧ Ext w w' :=
  sym_b (S := ⟨Try.prog, [F_rsame], [E_file], noApp, labI.one, 40⟩) (I := labI) (L := []) (args := [.agg [.v (.int .i64 ty), .v (.int .i64 cl), .v (.int .u64 ss), .v (.int .u64 sq), .v (.int .u64 bo), .v (.int .i64 kd), .v (.int .i64 er), .v (.int .i64 f1), .v (.int .i64 f2), .v (.int .i64 d1), .v (.int .i64 d2), .v (.string nm), .v (.string ot), .v (.int .i64 mo), .v (.int .i64 pl), .v (.string da), .v (.int .u64 ve), .obj 0], .agg [.v (.int .i64 ty'), .v (.int .i64 cl'), .v (.int .u64 ss'), .v (.int .u64 sq'), .v (.int .u64 bo'), .v (.int .i64 kd'), .v (.int .i64 er'), .v (.int .i64 f1'), .v (.int .i64 f2'), .v (.int .i64 d1'), .v (.int .i64 d2'), .v (.string nm'), .v (.string ot'), .v (.int .i64 mo'), .v (.int .i64 pl'), .v (.string da'), .v (.int .u64 ve'), .obj 1]]) (us := [.agg #[.int .i64 ty, .int .i64 cl, .int .u64 ss, .int .u64 sq, .int .u64 bo, .int .i64 kd, .int .i64 er, .int .i64 f1, .int .i64 f2, .int .i64 d1, .int .i64 d2, .string nm, .string ot, .int .i64 mo, .int .i64 pl, .string da, .int .u64 ve, v], .agg #[.int .i64 ty', .int .i64 cl', .int .u64 ss', .int .u64 sq', .int .u64 bo', .int .i64 kd', .int .i64 er', .int .i64 f1', .int .i64 f2', .int .i64 d1', .int .i64 d2', .string nm', .string ot', .int .i64 mo', .int .i64 pl', .string da', .int .u64 ve', v']]) (e := [v, v']) (mem := [enS en, enS en']) (SyOk.mk' Try.mixed (F_rsame_ok (FnsOk.nil)) (E_file_ok (EqsOk.nil))) Try.func12 (by kernel_rfl) (LpsOk.nil _) ⟨⟨[.int .i64 ty, .int .i64 cl, .int .u64 ss, .int .u64 sq, .int .u64 bo, .int .i64 kd, .int .i64 er, .int .i64 f1, .int .i64 f2, .int .i64 d1, .int .i64 d2, .string nm, .string ot, .int .i64 mo, .int .i64 pl, .string da, .int .u64 ve, v], ⟨rfl, rfl, rfl, rfl, rfl, rfl, rfl, rfl, rfl, rfl, rfl, rfl, rfl, rfl, rfl, rfl, rfl, rfl, trivial⟩, rfl⟩, ⟨[.int .i64 ty', .int .i64 cl', .int .u64 ss', .int .u64 sq', .int .u64 bo', .int .i64 kd', .int .i64 er', .int .i64 f1', .int .i64 f2', .int .i64 d1', .int .i64 d2', .string nm', .string ot', .int .i64 mo', .int .i64 pl', .string da', .int .u64 ve', v'], ⟨rfl, rfl, rfl, rfl, rfl, rfl, rfl, rfl, rfl, rfl, rfl, rfl, rfl, rfl, rfl, rfl, rfl, rfl, trivial⟩, rfl⟩, trivial⟩ (by kernel_rfl) (memOk_es2 hv hv') [((headSame (⟨ty, cl, ss, sq, bo, kd, er, f1, f2, d1, d2, nm, ot, mo, pl, da, ve, en⟩ : Msg) (⟨ty', cl', ss', sq', bo', kd', er', f1', f2', d1', d2', nm', ot', mo', pl', da', ve', en'⟩ : Msg) && filesSame (⟨ty, cl, ss, sq, bo, kd, er, f1, f2, d1, d2, nm, ot, mo, pl, da, ve, en⟩ : Msg) (⟨ty', cl', ss', sq', bo', kd', er', f1', f2', d1', d2', nm', ot', mo', pl', da', ve', en'⟩ : Msg) && pl == pl' && eqS da da' && ve == ve') && true) = true → entKS en = entKS en, ((headSame (⟨ty, cl, ss, sq, bo, kd, er, f1, f2, d1, d2, nm, ot, mo, pl, da, ve, en⟩ : Msg) (⟨ty', cl', ss', sq', bo', kd', er', f1', f2', d1', d2', nm', ot', mo', pl', da', ve', en'⟩ : Msg) && filesSame (⟨ty, cl, ss, sq, bo, kd, er, f1, f2, d1, d2, nm, ot, mo, pl, da, ve, en⟩ : Msg) (⟨ty', cl', ss', sq', bo', kd', er', f1', f2', d1', d2', nm', ot', mo', pl', da', ve', en'⟩ : Msg) && pl == pl' && eqS da da' && ve == ve') && true) = true → entKS en' = entKS en'] (by kernel_rfl) (by kernel_rfl) ((mcons (fun _ => rfl) (mcons (fun _ => rfl) mnil)))
def F_rsm : Nat × Fn2 Lab := (12, fun us mem => match us with | [.agg a0, .agg a1] => (match a0 with | [b0_0, b0_1, b0_2, b0_3, b0_4, b0_5, b0_6, b0_7, b0_8, b0_9, b0_10, b0_11, b0_12, b0_13, b0_14, b0_15, b0_16, .obj o_v] => (match valP b0_0 with | some (.int .i64 ty) => (match valP b0_1 with | some (.int .i64 cl) => (match valP b0_2 with | some (.int .u64 ss) => (match valP b0_3 with | some (.int .u64 sq) => (match valP b0_4 with | some (.int .u64 bo) => (match valP b0_5 with | some (.int .i64 kd) => (match valP b0_6 with | some (.int .i64 er) => (match valP b0_7 with | some (.int .i64 f1) => (match valP b0_8 with | some (.int .i64 f2) => (match valP b0_9 with | some (.int .i64 d1) => (match valP b0_10 with | some (.int .i64 d2) => (match valP b0_11 with | some (.string nm) => (match valP b0_12 with | some (.string ot) => (match valP b0_13 with | some (.int .i64 mo) => (match valP b0_14 with | some (.int .i64 pl) => (match valP b0_15 with | some (.string da) => (match valP b0_16 with | some (.int .u64 ve) => (match a1 with | [b1_0, b1_1, b1_2, b1_3, b1_4, b1_5, b1_6, b1_7, b1_8, b1_9, b1_10, b1_11, b1_12, b1_13, b1_14, b1_15, b1_16, .obj o_v'] => (match valP b1_0 with | some (.int .i64 ty') => (match valP b1_1 with | some (.int .i64 cl') => (match valP b1_2 with | some (.int .u64 ss') => (match valP b1_3 with | some (.int .u64 sq') => (match valP b1_4 with | some (.int .u64 bo') => (match valP b1_5 with | some (.int .i64 kd') => (match valP b1_6 with | some (.int .i64 er') => (match valP b1_7 with | some (.int .i64 f1') => (match valP b1_8 with | some (.int .i64 f2') => (match valP b1_9 with | some (.int .i64 d1') => (match valP b1_10 with | some (.int .i64 d2') => (match valP b1_11 with | some (.string nm') => (match valP b1_12 with | some (.string ot') => (match valP b1_13 with | some (.int .i64 mo') => (match valP b1_14 with | some (.int .i64 pl') => (match valP b1_15 with | some (.string da') => (match valP b1_16 with | some (.int .u64 ve') => (match mem[o_v]? with | some ⟨.sl K_v (.ents en), _⟩ => (match mem[o_v']? with | some ⟨.sl K_v' (.ents en'), _⟩ => some ([K_v = entKS en, K_v' = entKS en'], svV (.bool (sameR (⟨ty, cl, ss, sq, bo, kd, er, f1, f2, d1, d2, nm, ot, mo, pl, da, ve, en⟩ : Msg) (⟨ty', cl', ss', sq', bo', kd', er', f1', f2', d1', d2', nm', ot', mo', pl', da', ve', en'⟩ : Msg))), none) | _ => none) | _ => none) | _ => none) | _ => none) | _ => none) | _ => none) | _ => none) | _ => none) | _ => none) | _ => none) | _ => none) | _ => none) | _ => none) | _ => none) | _ => none) | _ => none) | _ => none) | _ => none) | _ => none) | _ => none) | _ => none) | _ => none) | _ => none) | _ => none) | _ => none) | _ => none) | _ => none) | _ => none) | _ => none) | _ => none) | _ => none) | _ => none) | _ => none) | _ => none) | _ => none) | _ => none) | _ => none) | _ => none) | _ => none)
theorem F_rsm_ok {W0 : World} {G : Nat → Prop} {F : Fns Lab} (ht : FnsOk Try.prog labI W0 G F) : FnsOk Try.prog labI W0 G (F_rsm :: F) :=
  FnsOk.cons Try.call12 (fun args mem ps r mo h hp w e us hM ha => by
    repeat' split at h
    all_goals first
      | (cases h; done)
      | skip
    simp only [Option.some.injEq, Prod.mk.injEq] at h
    obtain ⟨rfl, rfl, rfl⟩ := h
    simp only [allC_cons, allC_nil] at ha
    obtain ⟨u0, t0, rfl, hc0, u1, t1, rfl, hc1, rfl⟩ := ha
    obtain ⟨xs0, hxs0, rfl⟩ := hc0
    simp only [allIs_cons, allIs_nil] at hxs0
    obtain ⟨y0_0, s0_0, rfl, hb0_0, y0_1, s0_1, rfl, hb0_1, y0_2, s0_2, rfl, hb0_2, y0_3, s0_3, rfl, hb0_3, y0_4, s0_4, rfl, hb0_4, y0_5, s0_5, rfl, hb0_5, y0_6, s0_6, rfl, hb0_6, y0_7, s0_7, rfl, hb0_7, y0_8, s0_8, rfl, hb0_8, y0_9, s0_9, rfl, hb0_9, y0_10, s0_10, rfl, hb0_10, y0_11, s0_11, rfl, hb0_11, y0_12, s0_12, rfl, hb0_12, y0_13, s0_13, rfl, hb0_13, y0_14, s0_14, rfl, hb0_14, y0_15, s0_15, rfl, hb0_15, y0_16, s0_16, rfl, hb0_16, y0_17, s0_17, rfl, hb0_17, rfl⟩ := hxs0
    obtain rfl := valP_is (by assumption) hb0_0
    obtain rfl := valP_is (by assumption) hb0_1
    obtain rfl := valP_is (by assumption) hb0_2
    obtain rfl := valP_is (by assumption) hb0_3
    obtain rfl := valP_is (by assumption) hb0_4
    obtain rfl := valP_is (by assumption) hb0_5
    obtain rfl := valP_is (by assumption) hb0_6
    obtain rfl := valP_is (by assumption) hb0_7
    obtain rfl := valP_is (by assumption) hb0_8
    obtain rfl := valP_is (by assumption) hb0_9
    obtain rfl := valP_is (by assumption) hb0_10
    obtain rfl := valP_is (by assumption) hb0_11
    obtain rfl := valP_is (by assumption) hb0_12
    obtain rfl := valP_is (by assumption) hb0_13
    obtain rfl := valP_is (by assumption) hb0_14
    obtain rfl := valP_is (by assumption) hb0_15
    obtain rfl := valP_is (by assumption) hb0_16
    obtain ⟨xs1, hxs1, rfl⟩ := hc1
    simp only [allIs_cons, allIs_nil] at hxs1
    obtain ⟨y1_0, s1_0, rfl, hb1_0, y1_1, s1_1, rfl, hb1_1, y1_2, s1_2, rfl, hb1_2, y1_3, s1_3, rfl, hb1_3, y1_4, s1_4, rfl, hb1_4, y1_5, s1_5, rfl, hb1_5, y1_6, s1_6, rfl, hb1_6, y1_7, s1_7, rfl, hb1_7, y1_8, s1_8, rfl, hb1_8, y1_9, s1_9, rfl, hb1_9, y1_10, s1_10, rfl, hb1_10, y1_11, s1_11, rfl, hb1_11, y1_12, s1_12, rfl, hb1_12, y1_13, s1_13, rfl, hb1_13, y1_14, s1_14, rfl, hb1_14, y1_15, s1_15, rfl, hb1_15, y1_16, s1_16, rfl, hb1_16, y1_17, s1_17, rfl, hb1_17, rfl⟩ := hxs1
    obtain rfl := valP_is (by assumption) hb1_0
    obtain rfl := valP_is (by assumption) hb1_1
    obtain rfl := valP_is (by assumption) hb1_2
    obtain rfl := valP_is (by assumption) hb1_3
    obtain rfl := valP_is (by assumption) hb1_4
    obtain rfl := valP_is (by assumption) hb1_5
    obtain rfl := valP_is (by assumption) hb1_6
    obtain rfl := valP_is (by assumption) hb1_7
    obtain rfl := valP_is (by assumption) hb1_8
    obtain rfl := valP_is (by assumption) hb1_9
    obtain rfl := valP_is (by assumption) hb1_10
    obtain rfl := valP_is (by assumption) hb1_11
    obtain rfl := valP_is (by assumption) hb1_12
    obtain rfl := valP_is (by assumption) hb1_13
    obtain rfl := valP_is (by assumption) hb1_14
    obtain rfl := valP_is (by assumption) hb1_15
    obtain rfl := valP_is (by assumption) hb1_16
    refine (rsm_c _ _ _ _ _ _ _ _ _ _ _ _ _ _ _ _ _ _ _ _ _ _ _ _ _ _ _ _ _ _ _ _ _ _ _ _ _ _ w ?_ ?_).mono fun x w' ⟨h1, h2⟩ => ⟨_, h1, rfl, h2⟩
    all_goals first
      | (exact es_of hM (by assumption) (by assumption) (hp _ (by simp)))
      | (exact hp _ (by simp))) ht

end Go.Proofs.Ytklemhmdbfhcdaa
