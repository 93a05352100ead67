/- OutboxNobody. -/
import Derived.Test.YtklemhmdbfhcdaaO2
import Derived.Test.YtklemhmdbfhcdaaM9
import Derived.Test.YtklemhmdbfhcdaaMRd



set_option linter.unusedVariables false
set_option linter.unusedSimpArgs false
namespace Go.Proofs.Ytklemhmdbfhcdaa
open Go.RowKit

set_option maxRecDepth 100000 in
theorem lives28_c (w : World) : Calls Try.prog 7 #[] w fun e w' => e = .returned (.bool true) ∧ Ext w w' :=
  (sym_b (S := (⟨Try.prog, [(6, rowG hardL (nwG ⟨Try.prog, [], [], (hoP true), labI.one, 60⟩ Try.f6)), (8, rowG hardL (bxG ⟨Try.prog, [(20, inlB ⟨Try.prog, [], [], (hoP true), labI.one, 60⟩ Try.f20), F_mz], [], (hoP true), labI.one, 60⟩ Try.f8)), (10, rowG hardL (bxG (⟨Try.prog, [(18, inlB ⟨Try.prog, [(20, inlB ⟨Try.prog, [], [], (hoP true), labI.one, 60⟩ Try.f20)], [], (hoP true), labI.one, 60⟩ Try.f18), F_mz, (23, inlB ⟨Try.prog, [], [], (hoP true), labI.one, 60⟩ Try.f23), (14, inlE ⟨Try.prog, [(20, inlB ⟨Try.prog, [], [], (hoP true), labI.one, 60⟩ Try.f20)], [], (hoP true), labI.one, 60⟩ Try.f14)], [], hoP false, labI.one, 60⟩ : Sy Lab) Try.f10)), (18, bxV ⟨Try.prog, [(20, inlB ⟨Try.prog, [], [], (hoP true), labI.one, 60⟩ Try.f20)], [], (hoP true), labI.one, 60⟩ Try.f18)], [], (hoP true), labI.one, 60⟩ : Sy Lab)) (I := labI) (L := []) (args := []) (us := []) (e := []) (mem := []) (W0 := w) (G := fun _ => False) ((fun (W0 : World) (G : Nat → Prop) => SyOk.mk2 Try.mixed (hoP_ok true) (FnsR.cons (nwG_ok rfl (fun (W0 : World) (G : Nat → Prop) => SyOk.mk2 Try.mixed (hoP_ok true) (FnsR.nil) EqsOk.nil) Try.func6 (by kernel_rfl) Try.call6) (FnsR.cons (bxG_ok rfl (fun (W0 : World) (G : Nat → Prop) => SyOk.mk2 Try.mixed (hoP_ok true) (FnsR.cons (inlB_ok rfl (fun (W0 : World) (G : Nat → Prop) => SyOk.mk2 Try.mixed (hoP_ok true) (FnsR.nil) EqsOk.nil) Try.func20 (by kernel_rfl) Try.call20) (FnsR.cons (F_mz_ok) (FnsR.nil))) EqsOk.nil) Try.func8 (by kernel_rfl) Try.call8) (FnsR.cons (bxG_ok rfl (fun (W0 : World) (G : Nat → Prop) => (SyOk.mk3 Try.mixed (FnsOk.ofR (hard := hardL) (inlB_ok rfl (fun (W0 : World) (G : Nat → Prop) => SyOk.mk2 Try.mixed (hoP_ok true) (FnsR.cons (inlB_ok rfl (fun (W0 : World) (G : Nat → Prop) => SyOk.mk2 Try.mixed (hoP_ok true) (FnsR.nil) EqsOk.nil) Try.func20 (by kernel_rfl) Try.call20) (FnsR.nil)) EqsOk.nil) Try.func18 (by kernel_rfl) Try.call18) (FnsOk.ofR (hard := hardL) (F_mz_ok) (FnsOk.ofR (hard := hardL) (inlB_ok rfl (fun (W0 : World) (G : Nat → Prop) => SyOk.mk2 Try.mixed (hoP_ok true) (FnsR.nil) EqsOk.nil) Try.func23 (by kernel_rfl) Try.call23) (FnsOk.consE Try.call14 rfl Try.func14 (by kernel_rfl) (fun (W0 : World) (G : Nat → Prop) => SyOk.mk2 Try.mixed (hoP_ok true) (FnsR.cons (inlB_ok rfl (fun (W0 : World) (G : Nat → Prop) => SyOk.mk2 Try.mixed (hoP_ok true) (FnsR.nil) EqsOk.nil) Try.func20 (by kernel_rfl) Try.call20) (FnsR.nil)) EqsOk.nil) (FnsOk.nil))))) EqsOk.nil)) Try.func10 (by kernel_rfl) Try.call10) (FnsR.cons (bxV_ok rfl (fun (W0 : World) (G : Nat → Prop) => SyOk.mk2 Try.mixed (hoP_ok true) (FnsR.cons (inlB_ok rfl (fun (W0 : World) (G : Nat → Prop) => SyOk.mk2 Try.mixed (hoP_ok true) (FnsR.nil) EqsOk.nil) Try.func20 (by kernel_rfl) Try.call20) (FnsR.nil)) EqsOk.nil) Try.func18 (by kernel_rfl) Try.call18) (FnsR.nil))))) EqsOk.nil) w fun _ => False) Try.func7 (by kernel_rfl) (LpsOk.nil _) trivial (by kernel_rfl) (memOk_nil labI w) (v := true) [checkI (⟨1, 2, 3, (Int.ofNat (0 + 1)), 4, 2, 0, 0, 0, 0, 0, ⟨#[]⟩, ⟨#[]⟩, 0, 0, ⟨#[]⟩, 0, []⟩ : Msg) = 0, checkI (⟨2, 2, 3, 1, 4, 2, 0, 0, 0, 0, 0, ⟨#[]⟩, ⟨#[]⟩, 0, 0, ⟨#[]⟩, 0, []⟩ : Msg) = 0] (by kernel_rfl) (by kernel_rfl) (mcons (by kernel_rfl) (mcons (by kernel_rfl) mnil))).mono fun x w' h => ⟨h.1, h.2⟩
def F_lives28 : Nat × Fn2 Lab := (7, vfn fun us => match us with | [] => some ([], .bool true) | _ => none)
theorem F_lives28_ok : RowOk Try.prog labI hardL F_lives28.1 F_lives28.2 := by
  refine vfn_ok Try.call7 fun args ps r hs hp w => ?_
  split at hs
  · simp only [Option.some.injEq, Prod.mk.injEq] at hs
    obtain ⟨rfl, rfl⟩ := hs
    exact lives28_c w
  · cases hs
def zeroM (ps : List PV) : Bool := match mapO valP ps with
  | some [.int .i64 (.ofNat 0), .int .i64 (.ofNat 0), .int .u64 (.ofNat 0), .int .u64 (.ofNat 0), .int .u64 (.ofNat 0), .int .i64 (.ofNat 0), .int .i64 (.ofNat 0), .int .i64 (.ofNat 0), .int .i64 (.ofNat 0), .int .i64 (.ofNat 0), .int .i64 (.ofNat 0), .string ⟨⟨[]⟩⟩, .string ⟨⟨[]⟩⟩, .int .i64 (.ofNat 0), .int .i64 (.ofNat 0), .string ⟨⟨[]⟩⟩, .int .u64 (.ofNat 0), .slice none 0 0] => true
  | _ => false
def zeroV : List Value := [.int .i64 0, .int .i64 0, .int .u64 0, .int .u64 0, .int .u64 0, .int .i64 0, .int .i64 0, .int .i64 0, .int .i64 0, .int .i64 0, .int .i64 0, .string ⟨#[]⟩, .string ⟨#[]⟩, .int .i64 0, .int .i64 0, .string ⟨#[]⟩, .int .u64 0, .slice none 0 0]
theorem zeroM_is {ps : List PV} (h : zeroM ps = true) : mapO valP ps = some zeroV := by
  unfold zeroM at h
  split at h
  · rename_i hh; exact hh
  · cases h
/-- No messages are the same. -/
def F_rz : Nat × Fn2 Lab := (12, fun us _ => match us with
  | [.agg ps, .agg qs] => (match zeroM ps && zeroM qs with | true => some ([], .c (.one (.kB true)), none) | false => none)
  | _ => none)
theorem F_rz_ok : RowOk Try.prog labI hardL F_rz.1 F_rz.2 := by
  refine ⟨Try.call12, fun W0 G args mem ps r mo hr hp w e us hM ha => ?_, fun args m m' ps r hr hl => hr, fun args mem ps r m' hr => ?_⟩
  · simp only [F_rz] at hr
    split at hr
    · split at hr
      · rename_i hz
        rw [Bool.and_eq_true] at hz
        simp only [Option.some.injEq, Prod.mk.injEq] at hr
        obtain ⟨rfl, rfl, rfl⟩ := hr
        obtain ⟨u, v, rfl, hu, hv⟩ := allC2 ha
        obtain ⟨us, hus, rfl⟩ := hu
        obtain ⟨vs, hvs, rfl⟩ := hv
        rw [allIs_vals (zeroM_is hz.1) hus, allIs_vals (zeroM_is hz.2) hvs]
        refine (rsm_c 0 0 0 0 0 0 0 0 0 0 0 ⟨#[]⟩ ⟨#[]⟩ 0 0 ⟨#[]⟩ 0 [] (.slice none 0 0) 0 0 0 0 0 0 0 0 0 0 0 ⟨#[]⟩ ⟨#[]⟩ 0 0 ⟨#[]⟩ 0 [] (.slice none 0 0) w (es_nil w) (es_nil w)).mono fun x w' h => ⟨_, h.1, ?_, h.2⟩
        show _ = _
        exact congrArg Value.bool (by kernel_rfl)
      · cases hr
    · cases hr
  · simp only [F_rz] at hr
    split at hr
    · split at hr <;> simp at hr
    · cases hr
def nobM (ty cl ss sq bo kd er f1 f2 d1 d2 : Int) (nm ot : ByteArray) (mo pl : Int) (da : ByteArray) (ve : Int) (en : List Ent) : Mem Lab := [enS en, ⟨.blk [.v (.int .i64 ty), .v (.int .i64 cl), .v (.int .u64 ss), .v (.int .u64 sq), .v (.int .u64 bo), .v (.int .i64 kd), .v (.int .i64 er), .v (.int .i64 f1), .v (.int .i64 f2), .v (.int .i64 d1), .v (.int .i64 d2), .v (.string (shortS nm 20)), .v (.string (shortS ot 20)), .v (.int .i64 mo), .v (.int .i64 pl), .v (.string (shortS da 70)), .v (.int .u64 ve), .obj 2], true⟩, ⟨.sl (entKS (shortL en)) (.ents (shortL en)), true⟩]
/-- The loop of two rounds. -/
def nobG (M0 : Mem Lab) (c : Code) : SSt Lab → Option (Tr Lab) := fun st => match baseGet 1 st.base, baseGet 3 st.base, scBase 3 st.base with
  | some (.c (.one (.ptr 1 0))), some (.c (.one (.kI .i64 (.ofNat 0)))), true => some (.need [st.mem = M0] (.leaf (.exit 0) (xSt (writesC c) [] st)))
  | _, _, _ => none
set_option maxRecDepth 100000 in
theorem nobG_ok (ty cl ss sq bo kd er f1 f2 d1 d2 : Int) (nm ot : ByteArray) (mo pl : Int) (da : ByteArray) (ve : Int) (en : List Ent) {W0 : World} {G : Nat → Prop} (hS : SyOk (⟨Try.prog, [F_shortV, (16, inlB ⟨Try.prog, [(20, inlB ⟨Try.prog, [], [], (hoP true), labI.one, 60⟩ Try.f20)], [], (hoP true), labI.one, 60⟩ Try.f16), (14, inlB ⟨Try.prog, [(20, inlB ⟨Try.prog, [], [], (hoP true), labI.one, 60⟩ Try.f20)], [], (hoP true), labI.one, 60⟩ Try.f14), (8, inlB ⟨Try.prog, [(20, inlB ⟨Try.prog, [], [], (hoP true), labI.one, 60⟩ Try.f20)], [], (hoP true), labI.one, 60⟩ Try.f8), (10, inlB ⟨Try.prog, [(18, inlB ⟨Try.prog, [(20, inlB ⟨Try.prog, [], [], (hoP true), labI.one, 60⟩ Try.f20)], [], (hoP true), labI.one, 60⟩ Try.f18)], [], (hoP true), labI.one, 60⟩ Try.f10), (17, inlB ⟨Try.prog, [(18, inlB ⟨Try.prog, [(20, inlB ⟨Try.prog, [], [], (hoP true), labI.one, 60⟩ Try.f20)], [], (hoP true), labI.one, 60⟩ Try.f18)], [], (hoP true), labI.one, 60⟩ Try.f17), (18, inlB ⟨Try.prog, [(20, inlB ⟨Try.prog, [], [], (hoP true), labI.one, 60⟩ Try.f20)], [], (hoP true), labI.one, 60⟩ Try.f18), (19, inlB ⟨Try.prog, [(20, inlB ⟨Try.prog, [], [], (hoP true), labI.one, 60⟩ Try.f20)], [], (hoP true), labI.one, 60⟩ Try.f19), F_rz, F_lives28], [], (hoP true), labI.one, 60⟩ : Sy Lab) labI W0 G) : LoopSound (⟨Try.prog, [F_shortV, (16, inlB ⟨Try.prog, [(20, inlB ⟨Try.prog, [], [], (hoP true), labI.one, 60⟩ Try.f20)], [], (hoP true), labI.one, 60⟩ Try.f16), (14, inlB ⟨Try.prog, [(20, inlB ⟨Try.prog, [], [], (hoP true), labI.one, 60⟩ Try.f20)], [], (hoP true), labI.one, 60⟩ Try.f14), (8, inlB ⟨Try.prog, [(20, inlB ⟨Try.prog, [], [], (hoP true), labI.one, 60⟩ Try.f20)], [], (hoP true), labI.one, 60⟩ Try.f8), (10, inlB ⟨Try.prog, [(18, inlB ⟨Try.prog, [(20, inlB ⟨Try.prog, [], [], (hoP true), labI.one, 60⟩ Try.f20)], [], (hoP true), labI.one, 60⟩ Try.f18)], [], (hoP true), labI.one, 60⟩ Try.f10), (17, inlB ⟨Try.prog, [(18, inlB ⟨Try.prog, [(20, inlB ⟨Try.prog, [], [], (hoP true), labI.one, 60⟩ Try.f20)], [], (hoP true), labI.one, 60⟩ Try.f18)], [], (hoP true), labI.one, 60⟩ Try.f17), (18, inlB ⟨Try.prog, [(20, inlB ⟨Try.prog, [], [], (hoP true), labI.one, 60⟩ Try.f20)], [], (hoP true), labI.one, 60⟩ Try.f18), (19, inlB ⟨Try.prog, [(20, inlB ⟨Try.prog, [], [], (hoP true), labI.one, 60⟩ Try.f20)], [], (hoP true), labI.one, 60⟩ Try.f19), F_rz, F_lives28], [], (hoP true), labI.one, 60⟩ : Sy Lab) labI W0 G 86 (hdC (loopsC (bodyOf Try.f5)) 0) (nobG (nobM ty cl ss sq bo kd er f1 f2 d1 d2 nm ot mo pl da ve en) (hdC (loopsC (bodyOf Try.f5)) 0)) := by
  intro st t h
  unfold nobG at h
  split at h
  case h_2 => cases h
  rename_i h1 h3 hsc
  simp only [Option.some.injEq] at h
  subst h
  refine ⟨xSt_after (by kernel_rfl), fun KK hT Q a w e hf hM hQ => ?_⟩
  have hm : st.mem = (nobM ty cl ss sq bo kd er f1 f2 d1 d2 nm ot mo pl da ve en) := hT.1 _ (List.mem_cons_self ..)
  refine loop_rule (L := []) hS (LpsOk.nil _) (M0 := (nobM ty cl ss sq bo kd er f1 f2 d1 d2 nm ot mo pl da ve en)) (V := fun k => [(3, .c (.one (.kI .i64 (k : Int))))]) (R := [(1, .c (.one (.ptr 1 0)))]) (N := 2)
    (Ux := fun k x => match x with | .exit 0 => some [] | _ => none) (X := fun _ _ => True) (J := fun _ => True)
    ?_ rfl (fun k => ⟨by kernel_rfl, rfl⟩) (fun k x U hU => ?_) trivial (fun k hk hJ base ver => ?_) hm ⟨?_, trivial⟩ ⟨by rw [h1]; rfl, trivial⟩ hsc hT (fun k x U hk hU hX hT => ?_) hf hM hQ
  · intro en0 h0
    rcases List.mem_cons.1 h0 with rfl | h0
    · exact fun i => rfl
    · rcases List.mem_cons.1 h0 with rfl | h0
      · exact rfl
      · rcases List.mem_cons.1 h0 with rfl | h0
        · exact fun i => rfl
        · cases h0
  · split at hU
    · simp only [Option.some.injEq] at hU; subst hU; exact ⟨rfl, rfl⟩
    · cases hU
  · match k, hk with
    | 0, _ =>
      refine Eq.mp (α := ((nobM ty cl ss sq bo kd er f1 f2 d1 d2 nm ot mo pl da ve en) = (nobM ty cl ss sq bo kd er f1 f2 d1 d2 nm ot mo pl da ve en) ∧ (0 < 2 ∧ True) ∧ EqO (some (svV (.int .i64 1))) (some (svV (.int .i64 1))) ∧ True)) (by kernel_rfl) ⟨rfl, ⟨by decide, trivial⟩, rfl, trivial⟩
    | 1, _ =>
      refine Eq.mp (α := ((nobM ty cl ss sq bo kd er f1 f2 d1 d2 nm ot mo pl da ve en) = (nobM ty cl ss sq bo kd er f1 f2 d1 d2 nm ot mo pl da ve en) ∧ (1 < 2 ∧ True) ∧ EqO (some (svV (.int .i64 2))) (some (svV (.int .i64 2))) ∧ True)) (by kernel_rfl) ⟨rfl, ⟨by decide, trivial⟩, rfl, trivial⟩
    | 2, _ =>
      refine Eq.mp (α := ((nobM ty cl ss sq bo kd er f1 f2 d1 d2 nm ot mo pl da ve en) = (nobM ty cl ss sq bo kd er f1 f2 d1 d2 nm ot mo pl da ve en) ∧ True ∧ True)) (by kernel_rfl) ⟨rfl, trivial, trivial⟩
    | k + 3, h => omega
  · show EqO (baseGet 3 st.base) _
    rw [h3]; rfl
  · split at hU
    · simp only [Option.some.injEq] at hU; subst hU
      exact hT.2
    · cases hU
set_option maxRecDepth 100000 in
theorem lawNob_c (ty cl ss sq bo kd er f1 f2 d1 d2 : Int) (nm ot : ByteArray) (mo pl : Int) (da : ByteArray) (ve : Int) (en : List Ent) (v : Value) (w : World) (hv : Es w v en) : Calls Try.prog 5 #[.agg #[.int .i64 ty, .int .i64 cl, .int .u64 ss, .int .u64 sq, .int .u64 bo, .int .i64 kd, .int .i64 er, .int .i64 f1, .int .i64 f2, .int .i64 d1, .int .i64 d2, .string nm, .string ot, .int .i64 mo, .int .i64 pl, .string da, .int .u64 ve, v]] w fun e w' => e = .returned (.bool true) ∧ Ext w w' :=
  (sym_b (S := (⟨Try.prog, [F_shortV, (16, inlB ⟨Try.prog, [(20, inlB ⟨Try.prog, [], [], (hoP true), labI.one, 60⟩ Try.f20)], [], (hoP true), labI.one, 60⟩ Try.f16), (14, inlB ⟨Try.prog, [(20, inlB ⟨Try.prog, [], [], (hoP true), labI.one, 60⟩ Try.f20)], [], (hoP true), labI.one, 60⟩ Try.f14), (8, inlB ⟨Try.prog, [(20, inlB ⟨Try.prog, [], [], (hoP true), labI.one, 60⟩ Try.f20)], [], (hoP true), labI.one, 60⟩ Try.f8), (10, inlB ⟨Try.prog, [(18, inlB ⟨Try.prog, [(20, inlB ⟨Try.prog, [], [], (hoP true), labI.one, 60⟩ Try.f20)], [], (hoP true), labI.one, 60⟩ Try.f18)], [], (hoP true), labI.one, 60⟩ Try.f10), (17, inlB ⟨Try.prog, [(18, inlB ⟨Try.prog, [(20, inlB ⟨Try.prog, [], [], (hoP true), labI.one, 60⟩ Try.f20)], [], (hoP true), labI.one, 60⟩ Try.f18)], [], (hoP true), labI.one, 60⟩ Try.f17), (18, inlB ⟨Try.prog, [(20, inlB ⟨Try.prog, [], [], (hoP true), labI.one, 60⟩ Try.f20)], [], (hoP true), labI.one, 60⟩ Try.f18), (19, inlB ⟨Try.prog, [(20, inlB ⟨Try.prog, [], [], (hoP true), labI.one, 60⟩ Try.f20)], [], (hoP true), labI.one, 60⟩ Try.f19), F_rz, F_lives28], [], (hoP true), labI.one, 60⟩ : Sy Lab)) (I := labI) (L := [(3, nobG (nobM ty cl ss sq bo kd er f1 f2 d1 d2 nm ot mo pl da ve en) (hdC (loopsC (bodyOf Try.f5)) 0))]) (args := [.agg [.v (.int .i64 ty), .v (.int .i64 cl), .v (.int .u64 ss), .v (.int .u64 sq), .v (.int .u64 bo), .v (.int .i64 kd), .v (.int .i64 er), .v (.int .i64 f1), .v (.int .i64 f2), .v (.int .i64 d1), .v (.int .i64 d2), .v (.string nm), .v (.string ot), .v (.int .i64 mo), .v (.int .i64 pl), .v (.string da), .v (.int .u64 ve), .obj 0]]) (us := [.agg #[.int .i64 ty, .int .i64 cl, .int .u64 ss, .int .u64 sq, .int .u64 bo, .int .i64 kd, .int .i64 er, .int .i64 f1, .int .i64 f2, .int .i64 d1, .int .i64 d2, .string nm, .string ot, .int .i64 mo, .int .i64 pl, .string da, .int .u64 ve, v]]) (e := [v]) (mem := [enS en]) (W0 := w) (G := fun _ => False) ((fun (W0 : World) (G : Nat → Prop) => SyOk.mk2 Try.mixed (hoP_ok true) (FnsR.cons (F_shortV_ok) (FnsR.cons (inlB_ok rfl (fun (W0 : World) (G : Nat → Prop) => SyOk.mk2 Try.mixed (hoP_ok true) (FnsR.cons (inlB_ok rfl (fun (W0 : World) (G : Nat → Prop) => SyOk.mk2 Try.mixed (hoP_ok true) (FnsR.nil) EqsOk.nil) Try.func20 (by kernel_rfl) Try.call20) (FnsR.nil)) EqsOk.nil) Try.func16 (by kernel_rfl) Try.call16) (FnsR.cons (inlB_ok rfl (fun (W0 : World) (G : Nat → Prop) => SyOk.mk2 Try.mixed (hoP_ok true) (FnsR.cons (inlB_ok rfl (fun (W0 : World) (G : Nat → Prop) => SyOk.mk2 Try.mixed (hoP_ok true) (FnsR.nil) EqsOk.nil) Try.func20 (by kernel_rfl) Try.call20) (FnsR.nil)) EqsOk.nil) Try.func14 (by kernel_rfl) Try.call14) (FnsR.cons (inlB_ok rfl (fun (W0 : World) (G : Nat → Prop) => SyOk.mk2 Try.mixed (hoP_ok true) (FnsR.cons (inlB_ok rfl (fun (W0 : World) (G : Nat → Prop) => SyOk.mk2 Try.mixed (hoP_ok true) (FnsR.nil) EqsOk.nil) Try.func20 (by kernel_rfl) Try.call20) (FnsR.nil)) EqsOk.nil) Try.func8 (by kernel_rfl) Try.call8) (FnsR.cons (inlB_ok rfl (fun (W0 : World) (G : Nat → Prop) => SyOk.mk2 Try.mixed (hoP_ok true) (FnsR.cons (inlB_ok rfl (fun (W0 : World) (G : Nat → Prop) => SyOk.mk2 Try.mixed (hoP_ok true) (FnsR.cons (inlB_ok rfl (fun (W0 : World) (G : Nat → Prop) => SyOk.mk2 Try.mixed (hoP_ok true) (FnsR.nil) EqsOk.nil) Try.func20 (by kernel_rfl) Try.call20) (FnsR.nil)) EqsOk.nil) Try.func18 (by kernel_rfl) Try.call18) (FnsR.nil)) EqsOk.nil) Try.func10 (by kernel_rfl) Try.call10) (FnsR.cons (inlB_ok rfl (fun (W0 : World) (G : Nat → Prop) => SyOk.mk2 Try.mixed (hoP_ok true) (FnsR.cons (inlB_ok rfl (fun (W0 : World) (G : Nat → Prop) => SyOk.mk2 Try.mixed (hoP_ok true) (FnsR.cons (inlB_ok rfl (fun (W0 : World) (G : Nat → Prop) => SyOk.mk2 Try.mixed (hoP_ok true) (FnsR.nil) EqsOk.nil) Try.func20 (by kernel_rfl) Try.call20) (FnsR.nil)) EqsOk.nil) Try.func18 (by kernel_rfl) Try.call18) (FnsR.nil)) EqsOk.nil) Try.func17 (by kernel_rfl) Try.call17) (FnsR.cons (inlB_ok rfl (fun (W0 : World) (G : Nat → Prop) => SyOk.mk2 Try.mixed (hoP_ok true) (FnsR.cons (inlB_ok rfl (fun (W0 : World) (G : Nat → Prop) => SyOk.mk2 Try.mixed (hoP_ok true) (FnsR.nil) EqsOk.nil) Try.func20 (by kernel_rfl) Try.call20) (FnsR.nil)) EqsOk.nil) Try.func18 (by kernel_rfl) Try.call18) (FnsR.cons (inlB_ok rfl (fun (W0 : World) (G : Nat → Prop) => SyOk.mk2 Try.mixed (hoP_ok true) (FnsR.cons (inlB_ok rfl (fun (W0 : World) (G : Nat → Prop) => SyOk.mk2 Try.mixed (hoP_ok true) (FnsR.nil) EqsOk.nil) Try.func20 (by kernel_rfl) Try.call20) (FnsR.nil)) EqsOk.nil) Try.func19 (by kernel_rfl) Try.call19) (FnsR.cons (F_rz_ok) (FnsR.cons (F_lives28_ok) (FnsR.nil))))))))))) EqsOk.nil) w fun _ => False) Try.func5 (by kernel_rfl) (lps1 (by kernel_rfl) (nobG_ok ty cl ss sq bo kd er f1 f2 d1 d2 nm ot mo pl da ve en ((fun (W0 : World) (G : Nat → Prop) => SyOk.mk2 Try.mixed (hoP_ok true) (FnsR.cons (F_shortV_ok) (FnsR.cons (inlB_ok rfl (fun (W0 : World) (G : Nat → Prop) => SyOk.mk2 Try.mixed (hoP_ok true) (FnsR.cons (inlB_ok rfl (fun (W0 : World) (G : Nat → Prop) => SyOk.mk2 Try.mixed (hoP_ok true) (FnsR.nil) EqsOk.nil) Try.func20 (by kernel_rfl) Try.call20) (FnsR.nil)) EqsOk.nil) Try.func16 (by kernel_rfl) Try.call16) (FnsR.cons (inlB_ok rfl (fun (W0 : World) (G : Nat → Prop) => SyOk.mk2 Try.mixed (hoP_ok true) (FnsR.cons (inlB_ok rfl (fun (W0 : World) (G : Nat → Prop) => SyOk.mk2 Try.mixed (hoP_ok true) (FnsR.nil) EqsOk.nil) Try.func20 (by kernel_rfl) Try.call20) (FnsR.nil)) EqsOk.nil) Try.func14 (by kernel_rfl) Try.call14) (FnsR.cons (inlB_ok rfl (fun (W0 : World) (G : Nat → Prop) => SyOk.mk2 Try.mixed (hoP_ok true) (FnsR.cons (inlB_ok rfl (fun (W0 : World) (G : Nat → Prop) => SyOk.mk2 Try.mixed (hoP_ok true) (FnsR.nil) EqsOk.nil) Try.func20 (by kernel_rfl) Try.call20) (FnsR.nil)) EqsOk.nil) Try.func8 (by kernel_rfl) Try.call8) (FnsR.cons (inlB_ok rfl (fun (W0 : World) (G : Nat → Prop) => SyOk.mk2 Try.mixed (hoP_ok true) (FnsR.cons (inlB_ok rfl (fun (W0 : World) (G : Nat → Prop) => SyOk.mk2 Try.mixed (hoP_ok true) (FnsR.cons (inlB_ok rfl (fun (W0 : World) (G : Nat → Prop) => SyOk.mk2 Try.mixed (hoP_ok true) (FnsR.nil) EqsOk.nil) Try.func20 (by kernel_rfl) Try.call20) (FnsR.nil)) EqsOk.nil) Try.func18 (by kernel_rfl) Try.call18) (FnsR.nil)) EqsOk.nil) Try.func10 (by kernel_rfl) Try.call10) (FnsR.cons (inlB_ok rfl (fun (W0 : World) (G : Nat → Prop) => SyOk.mk2 Try.mixed (hoP_ok true) (FnsR.cons (inlB_ok rfl (fun (W0 : World) (G : Nat → Prop) => SyOk.mk2 Try.mixed (hoP_ok true) (FnsR.cons (inlB_ok rfl (fun (W0 : World) (G : Nat → Prop) => SyOk.mk2 Try.mixed (hoP_ok true) (FnsR.nil) EqsOk.nil) Try.func20 (by kernel_rfl) Try.call20) (FnsR.nil)) EqsOk.nil) Try.func18 (by kernel_rfl) Try.call18) (FnsR.nil)) EqsOk.nil) Try.func17 (by kernel_rfl) Try.call17) (FnsR.cons (inlB_ok rfl (fun (W0 : World) (G : Nat → Prop) => SyOk.mk2 Try.mixed (hoP_ok true) (FnsR.cons (inlB_ok rfl (fun (W0 : World) (G : Nat → Prop) => SyOk.mk2 Try.mixed (hoP_ok true) (FnsR.nil) EqsOk.nil) Try.func20 (by kernel_rfl) Try.call20) (FnsR.nil)) EqsOk.nil) Try.func18 (by kernel_rfl) Try.call18) (FnsR.cons (inlB_ok rfl (fun (W0 : World) (G : Nat → Prop) => SyOk.mk2 Try.mixed (hoP_ok true) (FnsR.cons (inlB_ok rfl (fun (W0 : World) (G : Nat → Prop) => SyOk.mk2 Try.mixed (hoP_ok true) (FnsR.nil) EqsOk.nil) Try.func20 (by kernel_rfl) Try.call20) (FnsR.nil)) EqsOk.nil) Try.func19 (by kernel_rfl) Try.call19) (FnsR.cons (F_rz_ok) (FnsR.cons (F_lives28_ok) (FnsR.nil))))))))))) EqsOk.nil) w fun _ => False)))
    ⟨⟨[.int .i64 ty, .int .i64 cl, .int .u64 ss, .int .u64 sq, .int .u64 bo, .int .i64 kd, .int .i64 er, .int .i64 f1, .int .i64 f2, .int .i64 d1, .int .i64 d2, .string nm, .string ot, .int .i64 mo, .int .i64 pl, .string da, .int .u64 ve, v], ⟨rfl, rfl, rfl, rfl, rfl, rfl, rfl, rfl, rfl, rfl, rfl, rfl, rfl, rfl, rfl, rfl, rfl, rfl, trivial⟩, rfl⟩, trivial⟩ (by kernel_rfl) (memOk_es1 hv) (v := true) [entKS en = entKS en, nobM ty cl ss sq bo kd er f1 f2 d1 d2 nm ot mo pl da ve en = nobM ty cl ss sq bo kd er f1 f2 d1 d2 nm ot mo pl da ve en] (by kernel_rfl) (by kernel_rfl) (mcons rfl (mcons rfl mnil))).mono fun x w' h => ⟨h.1, h.2⟩
theorem outboxNobody_calls (m : Msg × Value) (W : World) (hm : Es W m.2 m.1.en) : Calls Try.prog 5 #[.agg (m.1.vals m.2).toArray] W fun r w' => r = .returned (.bool true) ∧ Below W.heap.size W w' := by
  obtain ⟨m, v⟩ := m
  exact (lawNob_c m.ty m.cl m.ss m.sq m.bo m.kd m.er m.f1 m.f2 m.d1 m.d2 m.nm m.ot m.mo m.pl m.da m.ve m.en v W hm).mono fun r w' h => ⟨h.1, h.2.below⟩

end Go.Proofs.Ytklemhmdbfhcdaa
