/- Entries, by the document; letters in a text. -/
import Derived.Test.YtklemhmdbfhcdaaM5

set_option linter.unusedVariables false
set_option linter.unusedSimpArgs false
namespace Go.Proofs.Ytklemhmdbfhcdaa
open Go.RowKit

def refEntB (nm : ByteArray) (ino gen kd : Int) : Bool := nameB nm && decide (ino > 0) && decide (ino < 41) && decide (gen ≥ 0) && decide (gen < 2147483648) && decide (kd > 0) && decide (kd < 3)
def leS (a b : ByteArray) : Bool := Op.bytesLess a.toList b.toList || a.toList == b.toList
def badR (l : List Ent) (k : Nat) : Bool := !refEntB (entAt l k).nm (entAt l k).ino (entAt l k).gen (entAt l k).kind || (decide ((k : Int) > 0) && leS (entAt l k).nm (entAt l (IntKind.i64.wrap ((k : Int) - 1)).toNat).nm)
def riseB (l : List Ent) : Bool := (List.range l.length).all fun i => !badR l i
theorem riseB_bad {l : List Ent} {k : Nat} (h : k < l.length) (hb : badR l k = true) : riseB l = false := range_bad h hb
theorem riseB_all {l : List Ent} (h : ∀ k, k < l.length → badR l k = false) : riseB l = true := range_all h
/-- No name is longer than can be. -/
def Szs (l : List Ent) : Prop := ∀ i, (entAt l i).nm.size ≤ 9223372036854775807
set_option maxRecDepth 100000 in
theorem isE_c (nm : ByteArray) (ino gen kd : Int) (w : World) (hn : nm.size ≤ 9223372036854775807) : Calls Try.prog 45 #[.agg #[.string nm, .int .i64 ino, .int .i64 gen, .int .i64 kd]] w fun e w' => e = .returned (.bool (refEntB nm ino gen kd)) ∧ Ext w w' :=
  sym_b (S := ⟨Try.prog, [F_is], [], noApp, labI.one, 40⟩) (I := labI) (L := []) (args := [.agg [.v (.string nm), .v (.int .i64 ino), .v (.int .i64 gen), .v (.int .i64 kd)]]) (us := [.agg #[.string nm, .int .i64 ino, .int .i64 gen, .int .i64 kd]]) (e := []) (mem := []) (SyOk.mk' Try.mixed (F_is_ok (FnsOk.nil)) (EqsOk.nil)) Try.func45 (by kernel_rfl) (LpsOk.nil _) ⟨⟨[.string nm, .int .i64 ino, .int .i64 gen, .int .i64 kd], ⟨rfl, rfl, rfl, rfl, trivial⟩, rfl⟩, trivial⟩ (by kernel_rfl) (memOk_nil _ w) [nm.size ≤ 9223372036854775807] (by kernel_rfl) (by kernel_rfl) (by intro p hp; simp only [List.mem_cons, List.not_mem_nil, or_false] at hp; subst hp; exact hn)
def F_isE : Nat × Fn2 Lab := (45, fun us mem => match us with | [.agg a0] => (match a0 with | [b0_0, b0_1, b0_2, b0_3] => (match valP b0_0 with | some (.string nm) => (match valP b0_1 with | some (.int .i64 ino) => (match valP b0_2 with | some (.int .i64 gen) => (match valP b0_3 with | some (.int .i64 kd) => some ([nm.size ≤ 9223372036854775807], svV (.bool (refEntB nm ino gen kd)), none) | _ => none) | _ => none) | _ => none) | _ => none) | _ => none) | _ => none)
theorem F_isE_ok {W0 : World} {G : Nat → Prop} {F : Fns Lab} (ht : FnsOk Try.prog labI W0 G F) : FnsOk Try.prog labI W0 G (F_isE :: F) :=
  FnsOk.cons Try.call45 (fun args mem ps r mo h hp w e us hM ha => by
    repeat' split at h
    all_goals first
      | (cases h; done)
      | skip
    simp only [Option.some.injEq, Prod.mk.injEq] at h
    obtain ⟨rfl, rfl, rfl⟩ := h
    simp only [allC_cons, allC_nil] at ha
    obtain ⟨u0, t0, rfl, hc0, rfl⟩ := ha
    obtain ⟨xs0, hxs0, rfl⟩ := hc0
    simp only [allIs_cons, allIs_nil] at hxs0
    obtain ⟨y0_0, s0_0, rfl, hb0_0, y0_1, s0_1, rfl, hb0_1, y0_2, s0_2, rfl, hb0_2, y0_3, s0_3, rfl, hb0_3, rfl⟩ := hxs0
    obtain rfl := valP_is (by assumption) hb0_0
    obtain rfl := valP_is (by assumption) hb0_1
    obtain rfl := valP_is (by assumption) hb0_2
    obtain rfl := valP_is (by assumption) hb0_3
    refine (isE_c _ _ _ _ w  ?_).mono fun x w' ⟨h1, h2⟩ => ⟨_, h1, rfl, h2⟩
    all_goals first
      | (exact es_of hM (by assumption) (by assumption) (hp _ (by simp)))
      | (exact hp _ (by simp))) ht
def riseG (l : List Ent) (c : Code) : SSt Lab → Option (Tr Lab) := fun st => match baseGet 0 st.base, baseGet 3 st.base, st.mem, scBase 1 st.base with
  | some (.c (.one (.obj 0))), some (.c (.one (.kI .i64 (.ofNat 0)))), [⟨.sl K' lb', false⟩], true => some (.need [K' = entKS l, lb' = .ents l] (.br (riseB l) (.leaf (.exit 0) (xSt (writesC c) [] st)) (.leaf .ret (xSt (writesC c) [(2, .c (.one (.kB false)))] st))))
  | _, _, _, _ => none
set_option maxRecDepth 100000 in
theorem riseG_ok (l : List Ent) (hmax : l.length ≤ 9223372036854775807) (hsz : Szs l) {W0 : World} {G : Nat → Prop} (hS : SyOk ⟨Try.prog, [F_isE], [], noApp, labI.one, 40⟩ labI W0 G) : LoopSound ⟨Try.prog, [F_isE], [], noApp, labI.one, 40⟩ labI W0 G 34 (hdC (loopsC (bodyOf Try.f42)) 0) (riseG l (hdC (loopsC (bodyOf Try.f42)) 0)) := by
  intro st t h
  unfold riseG at h
  split at h
  case h_2 => cases h
  rename_i K' lb' h0 h3 hm hsc
  simp only [Option.some.injEq] at h
  subst h
  refine ⟨⟨xSt_after (by kernel_rfl), xSt_after (by kernel_rfl)⟩, fun KK hT Q a w e hf hM hQ => ?_⟩
  obtain rfl : entKS l = K' := (hT.1 _ (List.mem_cons_self ..)).symm
  obtain rfl : .ents l = lb' := (hT.1 _ (List.mem_cons_of_mem _ (List.mem_cons_self ..))).symm
  refine loop_rule (L := []) hS (LpsOk.nil _) (M0 := [enS l]) (V := fun k => [(3, svV (.int .i64 (k : Int)))]) (R := [(0, .c (.one (.obj 0)))]) (N := l.length)
    (Ux := fun k x => match x with | .exit 0 => some [] | .ret => some [(2, .c (.one (.kB false)))] | _ => none) (X := fun k x => match x with | .exit 0 => riseB l = true | .ret => k < l.length ∧ badR l k = true | _ => False)
    (J := fun k => ∀ j, j < k → badR l j = false)
    (fun en h => by rcases List.mem_cons.1 h with rfl | h; exact fun i => rfl; cases h) rfl (fun k => ⟨by kernel_rfl, rfl⟩) (fun k x U hU => ?_) (fun j hj => absurd hj (by omega)) (fun k hk hJ base ver => ?_) hm ⟨?_, trivial⟩ ⟨by rw [h0]; rfl, trivial⟩ hsc hT (fun k x U hk hU hX hT => ?_) hf hM hQ
  · split at hU
    · simp only [Option.some.injEq] at hU; subst hU; exact ⟨rfl, rfl⟩
    · simp only [Option.some.injEq] at hU; subst hU; exact ⟨by kernel_rfl, rfl⟩
    · cases hU
  · refine Eq.mp (α := (decide ((k : Int) < (l.length : Int)) = true → (∀ p ∈ [((decide ((k : Int) > 0) && (!(!refEntB (entAt l k).nm (entAt l k).ino (entAt l k).gen (entAt l k).kind) && true)) = true → idxOk (IntKind.i64.wrap ((k : Int) - 1)) l.length), ((decide ((k : Int) > 0) && (!(!refEntB (entAt l k).nm (entAt l k).ino (entAt l k).gen (entAt l k).kind) && true)) = true → idxOk (k : Int) l.length), (entAt l k).nm.size ≤ 9223372036854775807, idxOk (k : Int) l.length], p) ∧ 
        ((badR l k = true → [enS l] = [enS l] ∧ (k < l.length ∧ badR l k = true) ∧ svV (.bool false) = svV (.bool false) ∧ True) ∧
         (badR l k = false → [enS l] = [enS l] ∧ (k < l.length ∧ ∀ j, j < k + 1 → badR l j = false) ∧ svV (.int .i64 (IntKind.i64.wrap ((k : Int) + 1))) = svV (.int .i64 ((k + 1 : Nat) : Int)) ∧ True))) ∧
      (decide ((k : Int) < (l.length : Int)) = false → [enS l] = [enS l] ∧ riseB l = true ∧ True)) (by kernel_rfl) ?_
    have hmax : (l.length : Nat) ≤ 9223372036854775807 := hmax
    refine ⟨fun hlt => ?_, fun hge => ⟨rfl, riseB_all fun j hj => hJ j (by have := of_decide_eq_false hge; omega), trivial⟩⟩
    have hlt : k < l.length := by have := of_decide_eq_true hlt; omega
    have hid : idxOk (k : Int) (l.length) := ⟨by omega, by omega⟩
    refine ⟨fun p hp => ?_, fun hb => ⟨rfl, ⟨hlt, hb⟩, rfl, trivial⟩, fun hb => ⟨rfl, ⟨hlt, fun j hj => ?_⟩, ?_, trivial⟩⟩
    · simp only [List.mem_cons, List.not_mem_nil, or_false] at hp
      rcases hp with rfl | rfl | rfl | rfl
      · exact fun hg => prev_ok hlt hmax (by rw [Bool.and_eq_true] at hg; exact hg.1)
      · exact fun _ => hid
      · exact hsz _
      · exact hid
    · rcases Nat.lt_succ_iff_lt_or_eq.1 hj with h | rfl
      · exact hJ j h
      · exact hb
    · rw [IntWalk.i64_in _ (by omega)]; rfl
  · show EqO (baseGet 3 st.base) _
    rw [h3]; rfl
  · split at hU
    · simp only [Option.some.injEq] at hU; subst hU
      exact hT.2.1 hX
    · simp only [Option.some.injEq] at hU; subst hU
      obtain ⟨h1, h2⟩ : k < l.length ∧ badR l k = true := hX
      exact hT.2.2 (riseB_bad h1 h2)
    · cases hU
set_option maxRecDepth 100000 in
theorem rise_c (l : List Ent) (v : Value) (w : World) (hv : Es w v l) (hsz : Szs l) : Calls Try.prog 42 #[v] w fun e w' => e = .returned (.bool (cond (riseB l) true false)) ∧ Ext w w' :=
  sym_b (S := ⟨Try.prog, [F_isE], [], noApp, labI.one, 40⟩) (I := labI) (L := [(2, riseG l (hdC (loopsC (bodyOf Try.f42)) 0))]) (args := [.one (.obj 0)]) (us := [v]) (e := [v]) (mem := [enS l]) (SyOk.mk' Try.mixed (F_isE_ok (FnsOk.nil)) (EqsOk.nil)) Try.func42 (by kernel_rfl) (lps1 (by kernel_rfl) (riseG_ok l hv.max hsz (SyOk.mk' Try.mixed (F_isE_ok (FnsOk.nil)) EqsOk.nil))) ⟨rfl, trivial⟩ (by kernel_rfl) (memOk_es1 hv) [entKS l = entKS l, Lab.ents l = Lab.ents l] (by kernel_rfl) (by kernel_rfl) (by simp)
def F_rise : Nat × Fn2 Lab := (42, fun us mem => match us with | [.one (.obj o_v)] => (match mem[o_v]? with | some ⟨.sl K_v (.ents l), _⟩ => some ([K_v = entKS l, Szs l], svV (.bool (cond (riseB l) true false)), none) | _ => none) | _ => none)
theorem F_rise_ok {W0 : World} {G : Nat → Prop} {F : Fns Lab} (ht : FnsOk Try.prog labI W0 G F) : FnsOk Try.prog labI W0 G (F_rise :: F) :=
  FnsOk.cons Try.call42 (fun args mem ps r mo h hp w e us hM ha => by
    repeat' split at h
    all_goals first
      | (cases h; done)
      | skip
    simp only [Option.some.injEq, Prod.mk.injEq] at h
    obtain ⟨rfl, rfl, rfl⟩ := h
    simp only [allC_cons, allC_nil] at ha
    obtain ⟨u0, t0, rfl, hc0, rfl⟩ := ha
    refine (rise_c _ _ w ?_ ?_).mono fun x w' ⟨h1, h2⟩ => ⟨_, h1, rfl, h2⟩
    all_goals first
      | (exact es_of hM (by assumption) (by assumption) (hp _ (by simp)))
      | (exact hp _ (by simp))) ht
def hasC (s : ByteArray) (c : Int) (k : Nat) : Bool := ((byteAt s k).toNat : Int) == c
def noC (s : ByteArray) (ch : Int) : Bool := (List.range s.size).all fun i => !hasC s ch i
theorem noC_bad {s : ByteArray} {c : Int} {k : Nat} (h : k < s.size) (hb : hasC s c k = true) : noC s c = false := range_bad h hb
theorem noC_all {s : ByteArray} {c : Int} (h : ∀ k, k < s.size → hasC s c k = false) : noC s c = true := range_all h
def hasG (s : ByteArray) (ch : Int) (c : Code) : SSt Lab → Option (Tr Lab) := fun st => match baseGet 0 st.base, baseGet 1 st.base, baseGet 5 st.base, st.mem, scBase 0 st.base with
  | some (.c (.one (.v (.string s')))), some (.c (.one (.v (.int .u8 c')))), some (.c (.one (.kI .i64 (.ofNat 0)))), [], true => some (.need [s' = s, c' = ch] (.br (noC s ch) (.leaf (.exit 0) (xSt (writesC c) [] st)) (.leaf .ret (xSt (writesC c) [(4, .c (.one (.kB true)))] st))))
  | _, _, _, _, _ => none
set_option maxRecDepth 100000 in
theorem hasG_ok (s : ByteArray) (ch : Int) (hmax : s.size ≤ 9223372036854775807) {W0 : World} {G : Nat → Prop} (hS : SyOk ⟨Try.prog, [], [], noApp, labI.one, 40⟩ labI W0 G) : LoopSound ⟨Try.prog, [], [], noApp, labI.one, 40⟩ labI W0 G 17 (hdC (loopsC (bodyOf Try.f39)) 0) (hasG s ch (hdC (loopsC (bodyOf Try.f39)) 0)) := by
  intro st t h
  unfold hasG at h
  split at h
  case h_2 => cases h
  rename_i s' c' h0 h1 h5 hm hsc
  simp only [Option.some.injEq] at h
  subst h
  refine ⟨⟨xSt_after (by kernel_rfl), xSt_after (by kernel_rfl)⟩, fun KK hT Q a w e hf hM hQ => ?_⟩
  obtain rfl : s = s' := (hT.1 _ (List.mem_cons_self ..)).symm
  obtain rfl : ch = c' := (hT.1 _ (List.mem_cons_of_mem _ (List.mem_cons_self ..))).symm
  refine loop_rule (L := []) hS (LpsOk.nil _) (M0 := ([] : Mem Lab)) (V := fun k => [(5, svV (.int .i64 (k : Int)))]) (R := [(0, svV (.string s)), (1, svV (.int .u8 ch))]) (N := s.size)
    (Ux := fun k x => match x with | .exit 0 => some [] | .ret => some [(4, .c (.one (.kB true)))] | _ => none) (X := fun k x => match x with | .exit 0 => noC s ch = true | .ret => k < s.size ∧ hasC s ch k = true | _ => False)
    (J := fun k => ∀ j, j < k → hasC s ch j = false)
    (fun en h => by cases h) rfl (fun k => ⟨by kernel_rfl, rfl⟩) (fun k x U hU => ?_) (fun j hj => absurd hj (by omega)) (fun k hk hJ base ver => ?_) hm ⟨?_, trivial⟩ ⟨by rw [h0]; rfl, by rw [h1]; rfl, trivial⟩ hsc hT (fun k x U hk hU hX hT => ?_) hf hM hQ
  · split at hU
    · simp only [Option.some.injEq] at hU; subst hU; exact ⟨rfl, rfl⟩
    · simp only [Option.some.injEq] at hU; subst hU; exact ⟨by kernel_rfl, rfl⟩
    · cases hU
  · refine Eq.mp (α := (decide ((k : Int) < (s.size : Int)) = true → (∀ p ∈ [idxOk (k : Int) s.size], p) ∧ 
        ((hasC s ch k = true → ([] : Mem Lab) = ([] : Mem Lab) ∧ (k < s.size ∧ hasC s ch k = true) ∧ svV (.bool true) = svV (.bool true) ∧ True) ∧
         (hasC s ch k = false → ([] : Mem Lab) = ([] : Mem Lab) ∧ (k < s.size ∧ ∀ j, j < k + 1 → hasC s ch j = false) ∧ svV (.int .i64 (IntKind.i64.wrap ((k : Int) + 1))) = svV (.int .i64 ((k + 1 : Nat) : Int)) ∧ True))) ∧
      (decide ((k : Int) < (s.size : Int)) = false → ([] : Mem Lab) = ([] : Mem Lab) ∧ noC s ch = true ∧ True)) (by kernel_rfl) ?_
    have hmax : (s.size : Nat) ≤ 9223372036854775807 := hmax
    refine ⟨fun hlt => ?_, fun hge => ⟨rfl, noC_all fun j hj => hJ j (by have := of_decide_eq_false hge; omega), trivial⟩⟩
    have hlt : k < s.size := by have := of_decide_eq_true hlt; omega
    have hid : idxOk (k : Int) (s.size) := ⟨by omega, by omega⟩
    refine ⟨fun p hp => ?_, fun hb => ⟨rfl, ⟨hlt, hb⟩, rfl, trivial⟩, fun hb => ⟨rfl, ⟨hlt, fun j hj => ?_⟩, ?_, trivial⟩⟩
    · simp only [List.mem_cons, List.not_mem_nil, or_false] at hp
      rcases hp with rfl
      · first | exact hid | exact fun _ => hid | exact obx
    · rcases Nat.lt_succ_iff_lt_or_eq.1 hj with h | rfl
      · exact hJ j h
      · exact hb
    · rw [IntWalk.i64_in _ (by omega)]; rfl
  · show EqO (baseGet 5 st.base) _
    rw [h5]; rfl
  · split at hU
    · simp only [Option.some.injEq] at hU; subst hU
      exact hT.2.1 hX
    · simp only [Option.some.injEq] at hU; subst hU
      obtain ⟨h1, h2⟩ : k < s.size ∧ hasC s ch k = true := hX
      exact hT.2.2 (noC_bad h1 h2)
    · cases hU
set_option maxRecDepth 100000 in
theorem rhas_c (s : ByteArray) (ch : Int) (w : World) (hmax : s.size ≤ 9223372036854775807) : Calls Try.prog 39 #[.string s, .int .u8 ch] w fun e w' => e = .returned (.bool (cond (noC s ch) false true)) ∧ Ext w w' :=
  sym_b (S := ⟨Try.prog, [], [], noApp, labI.one, 40⟩) (I := labI) (L := [(2, hasG s ch (hdC (loopsC (bodyOf Try.f39)) 0))]) (args := [.one (.v (.string s)), .one (.v (.int .u8 ch))]) (us := [.string s, .int .u8 ch]) (e := []) (mem := []) (SyOk.mk' Try.mixed (FnsOk.nil) (EqsOk.nil)) Try.func39 (by kernel_rfl) (lps1 (by kernel_rfl) (hasG_ok s ch hmax (SyOk.mk' Try.mixed FnsOk.nil EqsOk.nil))) ⟨rfl, rfl, trivial⟩ (by kernel_rfl) (memOk_nil _ w) [s = s, ch = ch] (by kernel_rfl) (by kernel_rfl) (by simp)
def F_rhas : Nat × Fn2 Lab := (39, fun us mem => match us with | [.one a0, .one a1] => (match valP a0 with | some (.string s) => (match valP a1 with | some (.int .u8 ch) => some ([s.size ≤ 9223372036854775807], svV (.bool (cond (noC s ch) false true)), none) | _ => none) | _ => none) | _ => none)
theorem F_rhas_ok {W0 : World} {G : Nat → Prop} {F : Fns Lab} (ht : FnsOk Try.prog labI W0 G F) : FnsOk Try.prog labI W0 G (F_rhas :: F) :=
  FnsOk.cons Try.call39 (fun args mem ps r mo h hp w e us hM ha => by
    repeat' split at h
    all_goals first
      | (cases h; done)
      | skip
    simp only [Option.some.injEq, Prod.mk.injEq] at h
    obtain ⟨rfl, rfl, rfl⟩ := h
    simp only [allC_cons, allC_nil] at ha
    obtain ⟨u0, t0, rfl, hc0, u1, t1, rfl, hc1, rfl⟩ := ha
    obtain rfl := valP_is (by assumption) (show PV.is e _ _ from hc0)
    obtain rfl := valP_is (by assumption) (show PV.is e _ _ from hc1)
    refine (rhas_c _ _ w  ?_).mono fun x w' ⟨h1, h2⟩ => ⟨_, h1, rfl, h2⟩
    all_goals first
      | (exact es_of hM (by assumption) (by assumption) (hp _ (by simp)))
      | (exact hp _ (by simp))) ht
def rfileB (x y : Int) : Bool := decide (x > 0) && decide (x < 41) && decide (y ≥ 0) && decide (y < 2147483648)
def rcountB (x : Int) : Bool := decide (x > 0) && decide (x < 1099511627776)
set_option maxRecDepth 100000 in
theorem rfile_c (x y : Int) (w : World) : Calls Try.prog 40 #[.agg #[.int .i64 x, .int .i64 y]] w fun e w' => e = .returned (.bool (rfileB x y)) ∧ Ext w w' :=
  sym_b (S := ⟨Try.prog, [], [], noApp, labI.one, 40⟩) (I := labI) (L := []) (args := [.agg [.v (.int .i64 x), .v (.int .i64 y)]]) (us := [.agg #[.int .i64 x, .int .i64 y]]) (e := []) (mem := []) (SyOk.mk' Try.mixed (FnsOk.nil) (EqsOk.nil)) Try.func40 (by kernel_rfl) (LpsOk.nil _) ⟨⟨[.int .i64 x, .int .i64 y], ⟨rfl, rfl, trivial⟩, rfl⟩, trivial⟩ (by kernel_rfl) (memOk_nil _ w) [] (by kernel_rfl) (by kernel_rfl) (by simp)
def F_rfile : Nat × Fn2 Lab := (40, fun us mem => match us with | [.agg a0] => (match a0 with | [b0_0, b0_1] => (match valP b0_0 with | some (.int .i64 x) => (match valP b0_1 with | some (.int .i64 y) => some ([], svV (.bool (rfileB x y)), none) | _ => none) | _ => none) | _ => none) | _ => none)
theorem F_rfile_ok {W0 : World} {G : Nat → Prop} {F : Fns Lab} (ht : FnsOk Try.prog labI W0 G F) : FnsOk Try.prog labI W0 G (F_rfile :: F) :=
  FnsOk.cons Try.call40 (fun args mem ps r mo h hp w e us hM ha => by
    repeat' split at h
    all_goals first
      | (cases h; done)
      | skip
    simp only [Option.some.injEq, Prod.mk.injEq] at h
    obtain ⟨rfl, rfl, rfl⟩ := h
    simp only [allC_cons, allC_nil] at ha
    obtain ⟨u0, t0, rfl, hc0, rfl⟩ := ha
    obtain ⟨xs0, hxs0, rfl⟩ := hc0
    simp only [allIs_cons, allIs_nil] at hxs0
    obtain ⟨y0_0, s0_0, rfl, hb0_0, y0_1, s0_1, rfl, hb0_1, rfl⟩ := hxs0
    obtain rfl := valP_is (by assumption) hb0_0
    obtain rfl := valP_is (by assumption) hb0_1
    refine (rfile_c _ _ w ).mono fun x w' ⟨h1, h2⟩ => ⟨_, h1, rfl, h2⟩
    all_goals skip) ht
set_option maxRecDepth 100000 in
theorem rcount_c (x : Int) (w : World) : Calls Try.prog 30 #[.int .u64 x] w fun e w' => e = .returned (.bool (rcountB x)) ∧ Ext w w' :=
  sym_b (S := ⟨Try.prog, [], [], noApp, labI.one, 40⟩) (I := labI) (L := []) (args := [.one (.v (.int .u64 x))]) (us := [.int .u64 x]) (e := []) (mem := []) (SyOk.mk' Try.mixed (FnsOk.nil) (EqsOk.nil)) Try.func30 (by kernel_rfl) (LpsOk.nil _) ⟨rfl, trivial⟩ (by kernel_rfl) (memOk_nil _ w) [] (by kernel_rfl) (by kernel_rfl) (by simp)
def F_rcount : Nat × Fn2 Lab := (30, fun us mem => match us with | [.one a0] => (match valP a0 with | some (.int .u64 x) => some ([], svV (.bool (rcountB x)), none) | _ => none) | _ => none)
theorem F_rcount_ok {W0 : World} {G : Nat → Prop} {F : Fns Lab} (ht : FnsOk Try.prog labI W0 G F) : FnsOk Try.prog labI W0 G (F_rcount :: F) :=
  FnsOk.cons Try.call30 (fun args mem ps r mo h hp w e us hM ha => by
    repeat' split at h
    all_goals first
      | (cases h; done)
      | skip
    simp only [Option.some.injEq, Prod.mk.injEq] at h
    obtain ⟨rfl, rfl, rfl⟩ := h
    simp only [allC_cons, allC_nil] at ha
    obtain ⟨u0, t0, rfl, hc0, rfl⟩ := ha
    obtain rfl := valP_is (by assumption) (show PV.is e _ _ from hc0)
    refine (rcount_c _ w ).mono fun x w' ⟨h1, h2⟩ => ⟨_, h1, rfl, h2⟩
    all_goals skip) ht

end Go.Proofs.Ytklemhmdbfhcdaa
