/- OutboxPlays: the walk. -/
import Derived.Test.YtklemhmdbfhcdaaO9
import Derived.Test.YtklemhmdbfhcdaaMRd


set_option linter.unusedVariables false
set_option linter.unusedSimpArgs false
namespace Go.Proofs.Ytklemhmdbfhcdaa
open Go.RowKit

/-- What is asked on one way, and the answer. -/
def alV {β : Type} (r : Option (List Prop × SV × SSt β)) : Option (List Prop × Option Value) := match r with
  | some (ps, x, _) => some (ps, valS (some x))
  | none => none
theorem sym_al {β : Type} {S : Sy β} {I : ObI β} {W0 : World} {G : Nat → Prop} {L : Lps β} {w : World} {e : Env} {mem : Mem β} (hS : SyOk S I W0 G) {f : FuncId} {fn : Func} (hf : S.P.funcs[f]? = some fn) (hb : fn.body = some (bodyOf fn)) (hL : LpsOk S I W0 G L fn.ntmps (bodyOf fn)) {args : List CV} {us : List Value} (ha : AllC e args us) (hlen : leb args.length fn.ntmps = true) (hM : MemOk W0 G I w e mem)
    (cs : List Bool) (ps : List Prop) (v : Value) (h : alV ((runFn S L fn args mem).al cs) = some (ps, some v)) (hp : ∀ p ∈ ps, p) : Calls S.P f us.toArray w (fun x w' => x = .returned v ∧ Mod (fun k => G (2 * k)) W0 w') := by
  unfold alV at h
  split at h
  · rename_i qs x s hal
    simp only [Option.some.injEq, Prod.mk.injEq] at h
    obtain ⟨rfl, hv⟩ := h
    refine sym_calls hS hf hb hL ha hlen hM (RT.al_holds hal hp) ?_
    rintro y s' e' w' u hg ⟨rfl, rfl⟩ hy hM'
    exact ⟨congrArg _ (valS_is hv (fun z hz => by cases hz; exact hy)), hM'.mod⟩
  · cases h
/-- A slice that reads as these calls. -/
def DosIs (w : World) (v : Value) (l : List DoO) : Prop := Holds labI [] w v false (.sl (doKS l) (.ents [])) ∧ ∀ d ∈ l, Es w d.v d.m.en
theorem memOk_dos {w : World} {v : Value} {l : List DoO} (h : DosIs w v l) : MemOk w (fun _ => False) labI w [v, nilV] [⟨.sl (doKS l) (.ents []), false⟩, ⟨.us (.kn (knOf l)), false⟩] := by
  have hkn : labH (.kn (knOf l)) w nilV := ⟨rfl, fun d hd => by
    obtain ⟨x, hx, rfl⟩ := List.mem_map.1 hd
    exact es_esR (h.2 x hx)⟩
  refine ⟨rfl, fun i u n hu hn => ?_, fun i u n hu hn k hk => ?_, fun i u n hu hn hm => ?_, fun i j u v n m hu hn hm => ?_, Mod.refl _ w, fun _ _ _ _ _ _ _ => .inr id⟩
  · match i, hu, hn with
    | 0, hu, hn =>
      simp at hu hn
      subst hu; subst hn
      exact freeKS_holds (fun i => rfl) h.1
    | 1, hu, hn => simp at hu hn; subst hu; subst hn; exact hkn
    | i + 2, hu, _ => simp at hu
  · match i, hu, hn with
    | 0, hu, hn =>
      simp at hu hn
      subst hu; subst hn
      obtain ⟨ao, cap, rfl, h1, h2, h3, h4⟩ := h.1
      obtain ⟨hn, hk⟩ := hk
      cases ao with
      | none => cases hk
      | some a =>
        obtain ⟨x, g1, _⟩ := (h4 a rfl).2 0 (by have : (doKS l).n ≠ 0 := hn; omega) 0 _ rfl
        have := World.block_lt_of_cell? w _ g1
        cases hk
        exact this
    | 1, hu, hn =>
      simp at hu hn
      subst hu; subst hn
      obtain ⟨d, hd, hf⟩ := hk
      obtain ⟨x, hx, rfl⟩ := List.mem_map.1 hd
      exact (h.2 x hx).lt hf
    | i + 2, hu, _ => simp at hu
  · match i, hn with
    | 0, hn => simp at hn; subst hn; cases hm
    | 1, hn => simp at hn; subst hn; cases hm
    | i + 2, hn => simp at hn
  · match i, hn with
    | 0, hn => simp at hn; subst hn; cases hm
    | 1, hn => simp at hn; subst hn; cases hm
    | i + 2, hn => simp at hn
set_option maxRecDepth 100000 in
theorem playBad_c (client : Int) (l : List DoO) (v : Value) (w : World) (h : DosIs w v l) (h0 : (decide (client < (0 : Int)) || decide (client ≥ (8 : Int))) = true) (h1 : (decide (client < (0 : Int)) || decide (client > (7 : Int))) = true) : Calls Try.prog 4 #[.int .i64 client, v] w fun e w' => e = .returned (.bool true) ∧ Ext w w' :=
  sym_al (S := ((⟨Try.prog, [(6, inlC (⟨Try.prog, [], [], hoP false, labI.one, 60⟩ : Sy Lab) Try.f6 [true]), F_lives28], [], hoP false, labI.one, 60⟩ : Sy Lab) : Sy Lab)) (I := labI) (W0 := w) (G := fun _ => False) (L := [(8, lpG labI 212 (hdC (loopsC (bodyOf Try.f4)) 0) 4 (VO 0) (RO client) (meO l client (stO l client 0)) (.leaf (.exit 0) [] deO))]) (e := [v, nilV]) (mem := [⟨.sl (doKS l) (.ents []), false⟩, ⟨.us (.kn (knOf l)), false⟩]) (args := [.one (.v (.int .i64 client)), .one (.obj 0)]) (us := [.int .i64 client, v]) (SyOk.mk3 Try.mixed (FnsOk.consC (cs := [true]) Try.call6 rfl Try.func6 (by kernel_rfl) (fun (W0 : World) (G : Nat → Prop) => SyOk.mk3 Try.mixed (FnsOk.nil) EqsOk.nil) (FnsOk.ofR (hard := hardL) (F_lives28_ok) (FnsOk.nil))) EqsOk.nil) Try.func4 (by kernel_rfl) (lps1 (by kernel_rfl) (playLoop l client ((⟨Try.prog, [(6, inlC (⟨Try.prog, [], [], hoP false, labI.one, 60⟩ : Sy Lab) Try.f6 [true]), F_lives28], [], hoP false, labI.one, 60⟩ : Sy Lab) : Sy Lab) rfl)) ⟨rfl, rfl, trivial⟩ (by kernel_rfl) (memOk_dos h) [true]
    [(decide (client < (0 : Int)) || decide (client ≥ (8 : Int))) = true, (decide (client < (0 : Int)) || decide (client > (7 : Int))) = true] (.bool true) (by kernel_rfl) (mcons (h0) (mcons (h1) mnil))
set_option maxRecDepth 100000 in
theorem playGood_c (client : Int) (l : List DoO) (v : Value) (w : World) (h : DosIs w v l) (h0 : (decide (client < (0 : Int)) || decide (client ≥ (8 : Int))) = false) (h1 : (decide (client < (0 : Int)) || decide (client > (7 : Int))) = false) : Calls Try.prog 4 #[.int .i64 client, v] w fun e w' => e = .returned (.bool true) ∧ Ext w w' :=
  sym_al (S := ((⟨Try.prog, [(6, inlC (⟨Try.prog, [], [], hoP false, labI.one, 60⟩ : Sy Lab) Try.f6 [false]), F_lives28], [], hoP false, labI.one, 60⟩ : Sy Lab) : Sy Lab)) (I := labI) (W0 := w) (G := fun _ => False) (L := [(8, lpG labI 212 (hdC (loopsC (bodyOf Try.f4)) 0) 4 (VO 0) (RO client) (meO l client (stO l client 0)) (.leaf (.exit 0) [] deO))]) (e := [v, nilV]) (mem := [⟨.sl (doKS l) (.ents []), false⟩, ⟨.us (.kn (knOf l)), false⟩]) (args := [.one (.v (.int .i64 client)), .one (.obj 0)]) (us := [.int .i64 client, v]) (SyOk.mk3 Try.mixed (FnsOk.consC (cs := [false]) Try.call6 rfl Try.func6 (by kernel_rfl) (fun (W0 : World) (G : Nat → Prop) => SyOk.mk3 Try.mixed (FnsOk.nil) EqsOk.nil) (FnsOk.ofR (hard := hardL) (F_lives28_ok) (FnsOk.nil))) EqsOk.nil) Try.func4 (by kernel_rfl) (lps1 (by kernel_rfl) (playLoop l client ((⟨Try.prog, [(6, inlC (⟨Try.prog, [], [], hoP false, labI.one, 60⟩ : Sy Lab) Try.f6 [false]), F_lives28], [], hoP false, labI.one, 60⟩ : Sy Lab) : Sy Lab) rfl)) ⟨rfl, rfl, trivial⟩ (by kernel_rfl) (memOk_dos h) [false]
    [(decide (client < (0 : Int)) || decide (client ≥ (8 : Int))) = false, (decide (client < (0 : Int)) || decide (client > (7 : Int))) = false, Value.int IntKind.i64 client = Value.int IntKind.i64 client, (doKS l).sz = (doKS l).sz ∧ (doKS l).n = (doKS l).n ∧ ∀ (i : Nat), i < (doKS l).n → ∃ ps, fitCs (4 : Nat) [some (nat_lit 2 + (1 : Nat))] ((doKS l).cells i) ((doKS l).cells i) = some ps ∧ ∀ (p : Prop), p ∈ ps → p, Lab.kn (List.brecOn.go l (List.map._f fun d => (d.m.en, d.v))).1 = Lab.kn (List.brecOn.go l (List.map._f fun d => (d.m.en, d.v))).1, Value.bool true = Value.bool true, Value.int IntKind.i64 client = Value.int IntKind.i64 client, Value.int IntKind.u64 (Int.ofNat 0) = Value.int IntKind.u64 (Int.ofNat 0), Value.int IntKind.i64 (Int.ofNat 0) = Value.int IntKind.i64 (Int.ofNat 0), Value.int IntKind.i64 (Int.ofNat 0) = Value.int IntKind.i64 (Int.ofNat 0), Value.int IntKind.u64 (Int.ofNat 0) = Value.int IntKind.u64 (Int.ofNat 0), Value.int IntKind.u64 (Int.ofNat 0) = Value.int IntKind.u64 (Int.ofNat 0), Value.int IntKind.u64 (Int.ofNat 0) = Value.int IntKind.u64 (Int.ofNat 0), Value.int IntKind.i64 (Int.ofNat 0) = Value.int IntKind.i64 (Int.ofNat 0), Value.int IntKind.i64 (Int.ofNat 0) = Value.int IntKind.i64 (Int.ofNat 0), Value.int IntKind.i64 (Int.ofNat 0) = Value.int IntKind.i64 (Int.ofNat 0), Value.int IntKind.i64 (Int.ofNat 0) = Value.int IntKind.i64 (Int.ofNat 0), Value.int IntKind.i64 (Int.ofNat 0) = Value.int IntKind.i64 (Int.ofNat 0), Value.int IntKind.i64 (Int.ofNat 0) = Value.int IntKind.i64 (Int.ofNat 0), Value.string (ByteArray.mk #[]) = Value.string (ByteArray.mk #[]), Value.string (ByteArray.mk #[]) = Value.string (ByteArray.mk #[]), Value.int IntKind.i64 (Int.ofNat 0) = Value.int IntKind.i64 (Int.ofNat 0), Value.int IntKind.i64 (Int.ofNat 0) = Value.int IntKind.i64 (Int.ofNat 0), Value.string (ByteArray.mk #[]) = Value.string (ByteArray.mk #[]), Value.int IntKind.u64 (Int.ofNat 0) = Value.int IntKind.u64 (Int.ofNat 0), Value.slice none 0 0 = Value.slice none 0 0, Value.int IntKind.u64 (Int.ofNat 0) = Value.int IntKind.u64 (Int.ofNat 0), Value.bool false = Value.bool false, Value.int IntKind.i64 client = Value.int IntKind.i64 client, Value.int IntKind.u64 (Int.ofNat 0) = Value.int IntKind.u64 (Int.ofNat 0), Value.int IntKind.i64 (Int.ofNat 0) = Value.int IntKind.i64 (Int.ofNat 0), Value.int IntKind.i64 (Int.ofNat 0) = Value.int IntKind.i64 (Int.ofNat 0), Value.int IntKind.u64 (Int.ofNat 0) = Value.int IntKind.u64 (Int.ofNat 0), Value.int IntKind.u64 (Int.ofNat 0) = Value.int IntKind.u64 (Int.ofNat 0), Value.int IntKind.u64 (Int.ofNat 0) = Value.int IntKind.u64 (Int.ofNat 0), Value.int IntKind.i64 (Int.ofNat 0) = Value.int IntKind.i64 (Int.ofNat 0), Value.int IntKind.i64 (Int.ofNat 0) = Value.int IntKind.i64 (Int.ofNat 0), Value.int IntKind.i64 (Int.ofNat 0) = Value.int IntKind.i64 (Int.ofNat 0), Value.int IntKind.i64 (Int.ofNat 0) = Value.int IntKind.i64 (Int.ofNat 0), Value.int IntKind.i64 (Int.ofNat 0) = Value.int IntKind.i64 (Int.ofNat 0), Value.int IntKind.i64 (Int.ofNat 0) = Value.int IntKind.i64 (Int.ofNat 0), Value.string (ByteArray.mk #[]) = Value.string (ByteArray.mk #[]), Value.string (ByteArray.mk #[]) = Value.string (ByteArray.mk #[]), Value.int IntKind.i64 (Int.ofNat 0) = Value.int IntKind.i64 (Int.ofNat 0), Value.int IntKind.i64 (Int.ofNat 0) = Value.int IntKind.i64 (Int.ofNat 0), Value.string (ByteArray.mk #[]) = Value.string (ByteArray.mk #[]), Value.int IntKind.u64 (Int.ofNat 0) = Value.int IntKind.u64 (Int.ofNat 0), Value.slice none 0 0 = Value.slice none 0 0, Value.int IntKind.u64 (Int.ofNat 0) = Value.int IntKind.u64 (Int.ofNat 0), Value.int IntKind.i64 (Int.ofNat 0) = Value.int IntKind.i64 (Int.ofNat (0 : Nat))] (.bool true) (by kernel_rfl) (mcons (h0) (mcons (h1) (mcons (rfl) (mcons ((FitKS.refl (fun i => rfl))) (mcons (rfl) (mcons (rfl) (mcons (rfl) (mcons (rfl) (mcons (rfl) (mcons (rfl) (mcons (rfl) (mcons (rfl) (mcons (rfl) (mcons (rfl) (mcons (rfl) (mcons (rfl) (mcons (rfl) (mcons (rfl) (mcons (rfl) (mcons (rfl) (mcons (rfl) (mcons (rfl) (mcons (rfl) (mcons (rfl) (mcons (rfl) (mcons (rfl) (mcons (rfl) (mcons (rfl) (mcons (rfl) (mcons (rfl) (mcons (rfl) (mcons (rfl) (mcons (rfl) (mcons (rfl) (mcons (rfl) (mcons (rfl) (mcons (rfl) (mcons (rfl) (mcons (rfl) (mcons (rfl) (mcons (rfl) (mcons (rfl) (mcons (rfl) (mcons (rfl) (mcons (rfl) (mcons (rfl) (mcons (rfl) (mcons (rfl) (mcons (rfl) (mcons (rfl) mnil))))))))))))))))))))))))))))))))))))))))))))))))))
theorem outboxPlays_calls (client : Int) (v : Value) (l : List DoO) (W : World) (_ : -9223372036854775808 ≤ client ∧ client ≤ 9223372036854775807) (h : DosIs W v l) : Calls Try.prog 4 #[.int .i64 client, v] W fun e w' => e = .returned (.bool true) ∧ Below W.heap.size W w' := by
  by_cases hc : client < 0 ∨ 8 ≤ client
  · have h0 : (decide (client < (0 : Int)) || decide (client ≥ (8 : Int))) = true := by simpa using hc
    have h1 : (decide (client < (0 : Int)) || decide (client > (7 : Int))) = true := by
      simp only [Bool.or_eq_true, decide_eq_true_eq]; omega
    exact (playBad_c client l v W h h0 h1).mono fun r w' h => ⟨h.1, h.2.below⟩
  · have h0 : (decide (client < (0 : Int)) || decide (client ≥ (8 : Int))) = false := by
      simp only [Bool.or_eq_false_iff, decide_eq_false_iff_not]; omega
    have h1 : (decide (client < (0 : Int)) || decide (client > (7 : Int))) = false := by
      simp only [Bool.or_eq_false_iff, decide_eq_false_iff_not]; omega
    exact (playGood_c client l v W h h0 h1).mono fun r w' h => ⟨h.1, h.2.below⟩
section
open Go.ChangeShapes Go.WideShapes Go.ChangeAt
variable {H : Type} {enc : TypeId × Value → H} {W : World}
theorem read_msgL {cs : List Value} {fuel : Nat} {x : DataW H × List MemPlace} (hl : cs.length = 18) (h : DataW.trod enc Try.prog W 0 (fun _ => true) true fuel 33 cs = some x) :
    ∃ (m : Msg) (v : Value), cs = m.vals v ∧ Es W v m.en := by
  obtain ⟨c0, c1, c2, c3, c4, c5, c6, c7, c8, c9, c10, c11, c12, c13, c14, c15, c16, c17, rfl⟩ : ∃ c0 c1 c2 c3 c4 c5 c6 c7 c8 c9 c10 c11 c12 c13 c14 c15 c16 c17, cs = [c0, c1, c2, c3, c4, c5, c6, c7, c8, c9, c10, c11, c12, c13, c14, c15, c16, c17] := by
    match cs, hl with
    | [c0, c1, c2, c3, c4, c5, c6, c7, c8, c9, c10, c11, c12, c13, c14, c15, c16, c17], _ => exact ⟨c0, c1, c2, c3, c4, c5, c6, c7, c8, c9, c10, c11, c12, c13, c14, c15, c16, c17, rfl⟩
  obtain ⟨xs, n, _, _, _, hx, hf⟩ := DataW.trod_struct Try.underlying33 h
  have hx4 : xs.length = 16 := hx
  have z0 : Try.prog.cellsOf 31 = 1 := by kernel_rfl
  have z1 : Try.prog.cellsOf 24 = 1 := by kernel_rfl
  have z2 : Try.prog.cellsOf 30 = 2 := by kernel_rfl
  have z3 : Try.prog.cellsOf 3 = 1 := by kernel_rfl
  have z4 : Try.prog.cellsOf 9 = 1 := by kernel_rfl
  have z5 : Try.prog.cellsOf 28 = 1 := by kernel_rfl
  have f0 := hf 0 _ rfl
  have f1 := hf 1 _ rfl
  have f2 := hf 2 _ rfl
  have f3 := hf 3 _ rfl
  have f4 := hf 4 _ rfl
  have f5 := hf 5 _ rfl
  have f6 := hf 6 _ rfl
  have f7 := hf 7 _ rfl
  have f8 := hf 8 _ rfl
  have f9 := hf 9 _ rfl
  have f10 := hf 10 _ rfl
  have f11 := hf 11 _ rfl
  have f12 := hf 12 _ rfl
  have f13 := hf 13 _ rfl
  have f14 := hf 14 _ rfl
  have f15 := hf 15 _ rfl
  rw [List.getElem?_eq_getElem (by omega)] at f0 f1 f2 f3 f4 f5 f6 f7 f8 f9 f10 f11 f12 f13 f14 f15
  obtain ⟨x0, e0, _, _⟩ := DataW.trod_int Try.underlying3 f0
  have g0 : c0 = .int .i64 x0 := by simpa [z3] using e0
  obtain ⟨x1, e1, _, _⟩ := DataW.trod_int Try.underlying3 f1
  have g1 : c1 = .int .i64 x1 := by simpa [z3] using e1
  obtain ⟨x2, e2, _, _⟩ := DataW.trod_int Try.underlying28 f2
  have g2 : c2 = .int .u64 x2 := by simpa [z5] using e2
  obtain ⟨x3, e3, _, _⟩ := DataW.trod_int Try.underlying28 f3
  have g3 : c3 = .int .u64 x3 := by simpa [z5] using e3
  obtain ⟨x4, e4, _, _⟩ := DataW.trod_int Try.underlying28 f4
  have g4 : c4 = .int .u64 x4 := by simpa [z5] using e4
  obtain ⟨x5, e5, _, _⟩ := DataW.trod_int Try.underlying3 f5
  have g5 : c5 = .int .i64 x5 := by simpa [z3] using e5
  obtain ⟨x6, e6, _, _⟩ := DataW.trod_int Try.underlying24 f6
  have g6 : c6 = .int .i64 x6 := by simpa [z1] using e6
  obtain ⟨x7, y7, e7⟩ := read_file (by simp [z2]) f7
  have g7 : c7 = .int .i64 x7 ∧ c8 = .int .i64 y7 := by simpa [z2] using e7
  obtain ⟨x8, y8, e8⟩ := read_file (by simp [z2]) f8
  have g8 : c9 = .int .i64 x8 ∧ c10 = .int .i64 y8 := by simpa [z2] using e8
  obtain ⟨x9, e9, _⟩ := DataW.trod_string Try.underlying9 f9
  have g9 : c11 = .string x9 := by simpa [z4] using e9
  obtain ⟨x10, e10, _⟩ := DataW.trod_string Try.underlying9 f10
  have g10 : c12 = .string x10 := by simpa [z4] using e10
  obtain ⟨x11, e11, _, _⟩ := DataW.trod_int Try.underlying3 f11
  have g11 : c13 = .int .i64 x11 := by simpa [z3] using e11
  obtain ⟨x12, e12, _, _⟩ := DataW.trod_int Try.underlying3 f12
  have g12 : c14 = .int .i64 x12 := by simpa [z3] using e12
  obtain ⟨x13, e13, _⟩ := DataW.trod_string Try.underlying9 f13
  have g13 : c15 = .string x13 := by simpa [z4] using e13
  obtain ⟨x14, e14, _, _⟩ := DataW.trod_int Try.underlying28 f14
  have g14 : c16 = .int .u64 x14 := by simpa [z5] using e14
  obtain ⟨x15, l, e15, hE⟩ := read_es f15
  have g15 : c17 = x15 := by simpa [z0] using e15
  refine ⟨⟨x0, x1, x2, x3, x4, x5, x6, x7, y7, x8, y8, x9, x10, x11, x12, x13, x14, l⟩, x15, ?_, hE⟩
  rw [g0, g1, g2, g3, g4, g5, g6, g7.1, g7.2, g8.1, g8.2, g9, g10, g11, g12, g13, g14, g15]
  rfl
theorem read_do {cs : List Value} {fuel : Nat} {x : DataW H × List MemPlace} (hl : cs.length = 23) (h : DataW.trod enc Try.prog W 0 (fun _ => true) true fuel 38 cs = some x) :
    ∃ d : DoO, cs = d.vals ∧ Es W d.v d.m.en := by
  obtain ⟨xs, n, _, _, _, hx, hf⟩ := DataW.trod_struct Try.underlying38 h
  have hxn : xs.length = 6 := hx
  have z1 : Try.prog.cellsOf 33 = 18 := by kernel_rfl
  have z2 : Try.prog.cellsOf 3 = 1 := by kernel_rfl
  have z3 : Try.prog.cellsOf 28 = 1 := by kernel_rfl
  obtain ⟨c0, r0, rfl, hr0⟩ : ∃ c0 r0, cs = c0 :: r0 ∧ r0.length = 22 := by
    match cs, hl with
    | c :: r, hl => exact ⟨c, r, rfl, by simpa using hl⟩
  obtain ⟨cm, ct, rfl, hcm, hct⟩ : ∃ cm ct, r0 = cm ++ ct ∧ cm.length = 18 ∧ ct.length = 4 := ⟨r0.take 18, r0.drop 18, (List.take_append_drop 18 r0).symm, by simp [hr0], by simp [hr0]⟩
  obtain ⟨t0, t1, t2, t3, rfl⟩ : ∃ a b c d, ct = [a, b, c, d] := by
    match ct, hct with
    | [a, b, c, d], _ => exact ⟨a, b, c, d, rfl⟩
  have f0 := hf 0 _ rfl
  have f1 := hf 1 _ rfl
  have f2 := hf 2 _ rfl
  have f3 := hf 3 _ rfl
  have f4 := hf 4 _ rfl
  have f5 := hf 5 _ rfl
  rw [List.getElem?_eq_getElem (by omega)] at f0 f1 f2 f3 f4 f5
  obtain ⟨v0, e0, _, _⟩ := DataW.trod_int Try.underlying3 f0
  have g0 : c0 = .int .i64 v0 := by simpa [z2] using e0
  have q1 : ((c0 :: (cm ++ [t0, t1, t2, t3])).drop 1).take 18 = cm := by simp [hcm]
  obtain ⟨m, mv, e1, hE⟩ := read_msgL (by simp [z1, hcm]) f1
  have g1 : cm = m.vals mv := by simpa [z1, q1, hcm] using e1
  obtain ⟨v2, e2, _, _⟩ := DataW.trod_int Try.underlying28 f2
  have g2 : t0 = .int .u64 v2 := by simpa [z3, hcm, List.drop_append] using e2
  obtain ⟨v3, e3, _, _⟩ := DataW.trod_int Try.underlying28 f3
  have g3 : t1 = .int .u64 v3 := by simpa [z3, hcm, List.drop_append, List.drop_eq_nil_of_le (show cm.length ≤ 19 by omega)] using e3
  obtain ⟨v4, e4, _, _⟩ := DataW.trod_int Try.underlying28 f4
  have g4 : t2 = .int .u64 v4 := by simpa [z3, hcm, List.drop_append, List.drop_eq_nil_of_le (show cm.length ≤ 20 by omega)] using e4
  obtain ⟨v5, e5, _, _⟩ := DataW.trod_int Try.underlying3 f5
  have g5 : t3 = .int .i64 v5 := by simpa [z2, hcm, List.drop_append, List.drop_eq_nil_of_le (show cm.length ≤ 21 by omega)] using e5
  obtain ⟨ao, cap, rfl, _⟩ := id hE
  exact ⟨⟨v0, m, ao, (entKS m.en).n, cap, v2, v3, v4, v5⟩, by rw [g0, g1, g2, g3, g4, g5]; rfl, hE⟩
theorem read_dos {cs : List Value} {fuel : Nat} {x : DataW H × List MemPlace} (h : DataW.trod enc Try.prog W 0 (fun _ => true) true fuel 22 cs = some x) : ∃ v l, cs = [v] ∧ DosIs W v l := by
  obtain ⟨ao, len, cap, rfl, h1, h2, h3, h4⟩ := read_slice (c := 23) Try.underlying22 (by kernel_rfl) (by decide) h
  obtain ⟨ds, hl, hd⟩ := list_of_lt (p := fun i (d : DoO) => (∃ b o, ao = some ⟨b, o, none⟩ ∧ ∀ j, j < 23 → W.cell? ⟨b, o + i * 23 + j, none⟩ = d.vals[j]?) ∧ Es W d.v d.m.en) len fun i hi => by
    obtain ⟨b, o, cs', f, y, e1, e2, e3, e4⟩ := h4 i hi
    obtain ⟨d, rfl, hE⟩ := read_do e2 e4
    exact ⟨d, ⟨b, o, e1, e3⟩, hE⟩
  have at' : ∀ i, i < len → ∃ b o, ao = some ⟨b, o, none⟩ ∧ ∀ j, j < 23 → W.cell? ⟨b, o + i * 23 + j, none⟩ = (doAt ds i).vals[j]? := fun i hi => by
    refine (hd i (doAt ds i) ?_).1
    rw [doAt, List.getD_eq_getElem?_getD, List.getElem?_eq_getElem (by omega)]; rfl
  refine ⟨_, ds, rfl, ⟨ao, cap, by rw [show (doKS ds).n = len from hl], by rw [show (doKS ds).n = len from hl]; exact h1, h2, h3, fun a ha => ⟨fun hn => ?_, fun i hi j p hp => ?_⟩⟩, fun d hd' => ?_⟩
  · obtain ⟨b, o, e, _⟩ := at' 0 (by have : (doKS ds).n = len := hl; omega)
    rw [ha] at e; cases e; rfl
  · obtain ⟨b, o, e, hc⟩ := at' i (by have : (doKS ds).n = len := hl; omega)
    rw [ha] at e; cases e
    have hp' : ((doAt ds i).vals.map PV.v)[j]? = some p := hp
    rw [List.getElem?_map] at hp'
    cases hv : (doAt ds i).vals[j]? with
    | none => rw [hv] at hp'; cases hp'
    | some z =>
      rw [hv] at hp'
      simp at hp'
      subst hp'
      have hj : j < 23 := (List.getElem?_eq_some_iff.1 hv).1
      exact ⟨z, by have := hc j hj; rw [Nat.add_assoc, hv] at this; exact this, rfl⟩
  · obtain ⟨i, hi, hi'⟩ := List.getElem_of_mem hd'
    exact (hd i d (by rw [List.getElem?_eq_getElem hi, hi'])).2
end

end Go.Proofs.Ytklemhmdbfhcdaa
