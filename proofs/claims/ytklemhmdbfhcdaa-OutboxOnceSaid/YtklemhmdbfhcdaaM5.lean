/- Entries, by the program. -/
import Derived.Test.YtklemhmdbfhcdaaM4

set_option linter.unusedVariables false
set_option linter.unusedSimpArgs false
namespace Go.Proofs.Ytklemhmdbfhcdaa
open Go.RowKit

theorem range_bad {n k : Nat} {f : Nat → Bool} (h : k < n) (hb : f k = true) : ((List.range n).all fun i => !f i) = false := by
  rw [List.all_eq_false]; exact ⟨k, List.mem_range.2 h, by simp [hb]⟩
theorem range_all {n : Nat} {f : Nat → Bool} (h : ∀ k, k < n → f k = false) : ((List.range n).all fun i => !f i) = true := by
  rw [List.all_eq_true]; intro x hx; simp [h x (List.mem_range.1 hx)]
def geS (a b : ByteArray) : Bool := !Op.bytesLess a.toList b.toList
def badE (l : List Ent) (k : Nat) : Bool := !entryB (entAt l k).nm (entAt l k).ino (entAt l k).gen (entAt l k).kind || (decide ((k : Int) > 0) && geS (entAt l (IntKind.i64.wrap ((k : Int) - 1)).toNat).nm (entAt l k).nm)
def goodsE (l : List Ent) : Bool := (List.range l.length).all fun i => !badE l i
theorem goodsE_bad {l : List Ent} {k : Nat} (h : k < l.length) (hb : badE l k = true) : goodsE l = false := range_bad h hb
theorem goodsE_all {l : List Ent} (h : ∀ k, k < l.length → badE l k = false) : goodsE l = true := range_all h
def entriesB (l : List Ent) : Bool := goodsE l && decide ((l.length : Int) ≤ 24)
theorem Es.max {w : World} {v : Value} {l : List Ent} (h : Es w v l) : l.length ≤ 9223372036854775807 := by
  obtain ⟨ao, cap, _, h1, h2, _⟩ := h
  exact Nat.le_trans h1 h2
theorem prev_ok {k n : Nat} (h : k < n) (hmax : n ≤ 9223372036854775807) (hg : decide ((k : Int) > 0) = true) : idxOk (IntKind.i64.wrap ((k : Int) - 1)) n := by
  have := of_decide_eq_true hg
  rw [IntWalk.i64_in _ (by omega)]
  exact ⟨by omega, by omega⟩
def entsG (l : List Ent) (c : Code) : SSt Lab → Option (Tr Lab) := fun st => match baseGet 0 st.base, baseGet 5 st.base, baseGet 6 st.base, baseGet 7 st.base, st.mem, scBase 1 st.base with
  | some (.c (.one (.obj 0))), some (.c (.one (.obj 0))), some (.c (.one (.v (.int .i64 n')))), some (.c (.one (.kI .i64 (.ofNat 0)))), [⟨.sl K' lb', false⟩], true => some (.need [K' = entKS l, lb' = .ents l, n' = (l.length : Int)] (.br (goodsE l) (.leaf (.exit 0) (xSt (writesC c) [] st)) (.leaf .ret (xSt (writesC c) [(2, .c (.one (.kB false)))] st))))
  | _, _, _, _, _, _ => none
set_option maxRecDepth 100000 in
theorem entsG_ok (l : List Ent) (hmax : l.length ≤ 9223372036854775807) {W0 : World} {G : Nat → Prop} (hS : SyOk ⟨Try.prog, [F_entry], [], noApp, labI.one, 40⟩ labI W0 G) : LoopSound ⟨Try.prog, [F_entry], [], noApp, labI.one, 40⟩ labI W0 G 34 (hdC (loopsC (bodyOf Try.f38)) 0) (entsG l (hdC (loopsC (bodyOf Try.f38)) 0)) := by
  intro st t h
  unfold entsG at h
  split at h
  case h_2 => cases h
  rename_i n' K' lb' h0 h5 h6 h7 hm hsc
  simp only [Option.some.injEq] at h
  subst h
  refine ⟨⟨xSt_after (by kernel_rfl), xSt_after (by kernel_rfl)⟩, fun KK hT Q a w e hf hM hQ => ?_⟩
  obtain rfl : K' = entKS l := hT.1 _ (List.mem_cons_self ..)
  obtain rfl : lb' = .ents l := hT.1 _ (List.mem_cons_of_mem _ (List.mem_cons_self ..))
  obtain rfl : n' = (l.length : Int) := hT.1 _ (List.mem_cons_of_mem _ (List.mem_cons_of_mem _ (List.mem_cons_self ..)))
  refine loop_rule (L := []) hS (LpsOk.nil _) (M0 := [enS l]) (V := fun k => [(7, svV (.int .i64 (k : Int)))]) (R := [(5, .c (.one (.obj 0))), (6, svV (.int .i64 (l.length : Int))), (0, .c (.one (.obj 0)))]) (N := l.length)
    (Ux := fun k x => match x with | .exit 0 => some [] | .ret => some [(2, .c (.one (.kB false)))] | _ => none) (X := fun k x => match x with | .exit 0 => goodsE l = true | .ret => k < l.length ∧ badE l k = true | _ => False)
    (J := fun k => ∀ j, j < k → badE l j = false)
    (fun en h => by rcases List.mem_cons.1 h with rfl | h; exact fun i => rfl; cases h) rfl (fun k => ⟨by kernel_rfl, rfl⟩) (fun k x U hU => ?_) (fun j hj => absurd hj (by omega)) (fun k hk hJ base ver => ?_) hm ⟨?_, trivial⟩ ⟨by rw [h5]; rfl, by rw [h6]; rfl, by rw [h0]; rfl, trivial⟩ hsc hT (fun k x U hk hU hX hT => ?_) hf hM hQ
  · split at hU
    · simp only [Option.some.injEq] at hU; subst hU; exact ⟨rfl, rfl⟩
    · simp only [Option.some.injEq] at hU; subst hU; exact ⟨by kernel_rfl, rfl⟩
    · cases hU
  · refine Eq.mp (α := (decide ((k : Int) < (l.length : Int)) = true → (∀ p ∈ [idxOk (k : Int) l.length], p) ∧ (∀ p ∈ [((decide ((k : Int) > 0) && (!(!entryB (entAt l k).nm (entAt l k).ino (entAt l k).gen (entAt l k).kind) && true)) = true → idxOk (IntKind.i64.wrap ((k : Int) - 1)) l.length)], p) ∧ 
        ((badE l k = true → [enS l] = [enS l] ∧ (k < l.length ∧ badE l k = true) ∧ svV (.bool false) = svV (.bool false) ∧ True) ∧
         (badE l k = false → [enS l] = [enS l] ∧ (k < l.length ∧ ∀ j, j < k + 1 → badE l j = false) ∧ svV (.int .i64 (IntKind.i64.wrap ((k : Int) + 1))) = svV (.int .i64 ((k + 1 : Nat) : Int)) ∧ True))) ∧
      (decide ((k : Int) < (l.length : Int)) = false → [enS l] = [enS l] ∧ goodsE l = true ∧ True)) (by kernel_rfl) ?_
    have hmax : (l.length : Nat) ≤ 9223372036854775807 := hmax
    refine ⟨fun hlt => ?_, fun hge => ⟨rfl, goodsE_all fun j hj => hJ j (by have := of_decide_eq_false hge; omega), trivial⟩⟩
    have hlt : k < l.length := by have := of_decide_eq_true hlt; omega
    have hid : idxOk (k : Int) (l.length) := ⟨by omega, by omega⟩
    refine ⟨fun p hp => ?_, fun p hp => ?_, fun hb => ⟨rfl, ⟨hlt, hb⟩, rfl, trivial⟩, fun hb => ⟨rfl, ⟨hlt, fun j hj => ?_⟩, ?_, trivial⟩⟩
    · simp only [List.mem_cons, List.not_mem_nil, or_false] at hp
      rcases hp with rfl
      · first | exact hid | exact fun _ => hid | exact obx
    · simp only [List.mem_cons, List.not_mem_nil, or_false] at hp
      subst hp
      exact fun hg => prev_ok hlt hmax (by rw [Bool.and_eq_true] at hg; exact hg.1)
    · rcases Nat.lt_succ_iff_lt_or_eq.1 hj with h | rfl
      · exact hJ j h
      · exact hb
    · rw [IntWalk.i64_in _ (by omega)]; rfl
  · show EqO (baseGet 7 st.base) _
    rw [h7]; rfl
  · split at hU
    · simp only [Option.some.injEq] at hU; subst hU
      exact hT.2.1 hX
    · simp only [Option.some.injEq] at hU; subst hU
      obtain ⟨h1, h2⟩ : k < l.length ∧ badE l k = true := hX
      exact hT.2.2 (goodsE_bad h1 h2)
    · cases hU
set_option maxRecDepth 100000 in
theorem entries_c (l : List Ent) (v : Value) (w : World) (hv : Es w v l) : Calls Try.prog 38 #[v] w fun e w' => e = .returned (.bool (entriesB l)) ∧ Ext w w' :=
  sym_b (S := ⟨Try.prog, [F_entry], [], noApp, labI.one, 40⟩) (I := labI) (L := [(2, entsG l (hdC (loopsC (bodyOf Try.f38)) 0))]) (args := [.one (.obj 0)]) (us := [v]) (e := [v]) (mem := [enS l]) (SyOk.mk' Try.mixed (F_entry_ok (FnsOk.nil)) (EqsOk.nil)) Try.func38 (by kernel_rfl) (lps1 (by kernel_rfl) (entsG_ok l hv.max (SyOk.mk' Try.mixed (F_entry_ok (FnsOk.nil)) EqsOk.nil))) ⟨rfl, trivial⟩ (by kernel_rfl) (memOk_es1 hv) [entKS l = entKS l, Lab.ents l = Lab.ents l, (l.length : Int) = (l.length : Int)] (by kernel_rfl) (by kernel_rfl) (by simp)
def F_entries : Nat × Fn2 Lab := (38, fun us mem => match us with | [.one (.obj o_v)] => (match mem[o_v]? with | some ⟨.sl K_v (.ents l), _⟩ => some ([K_v = entKS l], svV (.bool (entriesB l)), none) | _ => none) | _ => none)
theorem F_entries_ok {W0 : World} {G : Nat → Prop} {F : Fns Lab} (ht : FnsOk Try.prog labI W0 G F) : FnsOk Try.prog labI W0 G (F_entries :: F) :=
  FnsOk.cons Try.call38 (fun args mem ps r mo h hp w e us hM ha => by
    repeat' split at h
    all_goals first
      | (cases h; done)
      | skip
    simp only [Option.some.injEq, Prod.mk.injEq] at h
    obtain ⟨rfl, rfl, rfl⟩ := h
    simp only [allC_cons, allC_nil] at ha
    obtain ⟨u0, t0, rfl, hc0, rfl⟩ := ha
    refine (entries_c _ _ w ?_).mono fun x w' ⟨h1, h2⟩ => ⟨_, h1, rfl, h2⟩
    all_goals first
      | (exact es_of hM (by assumption) (by assumption) (hp _ (by simp)))
      | (exact hp _ (by simp))) ht

end Go.Proofs.Ytklemhmdbfhcdaa
