/- Names: the document's text. -/
import Derived.Test.YtklemhmdbfhcdaaM1
import Derived.IntWalk


set_option linter.unusedVariables false
set_option linter.unusedSimpArgs false
namespace Go.Proofs.Ytklemhmdbfhcdaa
open Go.RowKit

def hdC (l : List Code) (n : Nat) : Code := match l with
  | [] => .skip
  | c :: cs => match n with | 0 => c | n + 1 => hdC cs n
theorem lps1 {S : Sy Lab} {W0 : World} {G : Nat → Prop} {sz id : Nat} {g : SSt Lab → Option (Tr Lab)} {b c : Code} (hc : loopsC b = [c]) (h : LoopSound S labI W0 G sz c g) : LpsOk S labI W0 G [(id, g)] sz b := fun c' hc' g' hg => by
  rw [hc] at hc'
  simp at hc'
  subst hc'
  simp only [lpGet] at hg
  split at hg
  · simp only [Option.some.injEq] at hg; subst hg; exact h
  · cases hg

def byteAt (s : ByteArray) (k : Nat) : UInt8 := s.data.toList.getD k 0
def badB (x : UInt8) : Bool := decide ((x.toNat : Int) ≤ 32) || decide ((x.toNat : Int) ≥ 127) || (x.toNat : Int) == 47
def goodsB (s : ByteArray) : Bool := s.data.toList.all fun x => !badB x
def nameB (s : ByteArray) : Bool := goodsB s && (decide ((s.size : Int) > 0) && decide ((s.size : Int) < 17) && (!(s.toList == (⟨#[46]⟩ : ByteArray).toList)) && (!(s.toList == (⟨#[46, 46]⟩ : ByteArray).toList)))
theorem goods_bad {s : ByteArray} {k : Nat} (h : k < s.size) (hb : badB (byteAt s k) = true) : goodsB s = false := by
  unfold goodsB
  rw [List.all_eq_false]
  have hk : k < s.data.toList.length := by simpa using h
  exact ⟨s.data.toList[k], List.getElem_mem hk, by simpa [byteAt, List.getD, List.getElem?_eq_getElem hk] using hb⟩
theorem goods_all {s : ByteArray} (h : ∀ k, k < s.size → badB (byteAt s k) = false) : goodsB s = true := by
  unfold goodsB
  rw [List.all_eq_true]
  intro x hx
  obtain ⟨k, hk, rfl⟩ := List.getElem_of_mem hx
  have := h k (by simpa using hk)
  simpa [byteAt, List.getD, List.getElem?_eq_getElem hk] using this

def isG (c : Code) (s0 : ByteArray) : SSt Lab → Option (Tr Lab) := fun st => match baseGet 0 st.base, baseGet 3 st.base, st.mem, scBase 0 st.base with
  | some (.c (.one (.v (.string s)))), some (.c (.one (.kI .i64 (.ofNat 0)))), [], true => some (.need [s = s0] (.br (goodsB s0) (.leaf (.exit 0) (xSt (writesC c) [] st)) (.leaf .ret (xSt (writesC c) [(2, .c (.one (.kB false)))] st))))
  | _, _, _, _ => none
theorem isG_ok (s : ByteArray) (hs : s.size ≤ 9223372036854775807) {W0 : World} {G : Nat → Prop} (hS : SyOk ⟨Try.prog, [], [], noApp, labI.one, 40⟩ labI W0 G) :
    LoopSound ⟨Try.prog, [], [], noApp, labI.one, 40⟩ labI W0 G 42 (hdC (loopsC (bodyOf Try.f41)) 0) (isG (hdC (loopsC (bodyOf Try.f41)) 0) s) := by
  intro st t h
  unfold isG at h
  split at h
  case h_2 => cases h
  rename_i s' h0 h3 hm hsc
  simp only [Option.some.injEq] at h
  subst h
  refine ⟨⟨xSt_after (by kernel_rfl), xSt_after (by kernel_rfl)⟩, fun K hT Q a w e hf hM hQ => ?_⟩
  have hss : s' = s := hT.1 _ (List.mem_cons_self ..)
  subst hss
  refine loop_rule (L := []) hS (LpsOk.nil _) (M0 := []) (V := fun k => [(3, svV (.int .i64 (k : Int)))]) (R := [(0, svV (.string s'))]) (N := s'.size)
    (Ux := fun k x => match x with | .exit 0 => some [] | .ret => some [(2, .c (.one (.kB false)))] | _ => none) (X := fun k x => match x with | .exit 0 => goodsB s' = true | .ret => k < s'.size ∧ badB (byteAt s' k) = true | _ => False)
    (J := fun k => ∀ j, j < k → badB (byteAt s' j) = false)
    (fun en h => by cases h) rfl (fun k => ⟨by kernel_rfl, rfl⟩) (fun k x U hU => ?_) (fun j hj => absurd hj (by omega)) (fun k hk hJ base ver => ?_) hm ⟨?_, trivial⟩ ⟨by rw [h0]; rfl, trivial⟩ hsc hT (fun k x U hk hU hX hT => ?_) hf hM hQ
  · split at hU
    · simp only [Option.some.injEq] at hU; subst hU; exact ⟨rfl, rfl⟩
    · simp only [Option.some.injEq] at hU; subst hU; exact ⟨by kernel_rfl, rfl⟩
    · cases hU
  · refine Eq.mp (α := (decide ((k : Int) < (s'.size : Int)) = true →
        (∀ p ∈ [((!(decide (((byteAt s' k).toNat : Int) ≤ 32) || decide (((byteAt s' k).toNat : Int) ≥ 127)) && true) = true → idxOk (k : Int) s'.size), ((!(decide (((byteAt s' k).toNat : Int) ≤ 32)) && true) = true → idxOk (k : Int) s'.size), idxOk (k : Int) s'.size], p) ∧
        ((badB (byteAt s' k) = true → ([] : Mem Lab) = [] ∧ (k < s'.size ∧ badB (byteAt s' k) = true) ∧ svV (.bool false) = svV (.bool false) ∧ True) ∧
         (badB (byteAt s' k) = false → ([] : Mem Lab) = [] ∧ (k < s'.size ∧ ∀ j, j < k + 1 → badB (byteAt s' j) = false) ∧ svV (.int .i64 (IntKind.i64.wrap ((k : Int) + 1))) = svV (.int .i64 ((k + 1 : Nat) : Int)) ∧ True))) ∧
      (decide ((k : Int) < (s'.size : Int)) = false → ([] : Mem Lab) = [] ∧ goodsB s' = true ∧ True)) (by kernel_rfl) ?_
    refine ⟨fun hlt => ?_, fun hge => ⟨rfl, goods_all fun j hj => hJ j (by have := of_decide_eq_false hge; omega), trivial⟩⟩
    have hlt : k < s'.size := by have := of_decide_eq_true hlt; omega
    have hid : idxOk (k : Int) s'.size := ⟨by omega, by omega⟩
    refine ⟨fun p hp => ?_, fun hb => ⟨rfl, ⟨hlt, hb⟩, rfl, trivial⟩, fun hb => ⟨rfl, ⟨hlt, fun j hj => ?_⟩, ?_, trivial⟩⟩
    · simp only [List.mem_cons, List.not_mem_nil, or_false] at hp
      rcases hp with rfl | rfl | rfl
      · exact fun _ => hid
      · exact fun _ => hid
      · exact hid
    · rcases Nat.lt_succ_iff_lt_or_eq.1 hj with h | rfl
      · exact hJ j h
      · exact hb
    · rw [IntWalk.i64_in _ (by omega)]; rfl
  · show EqO (baseGet 3 st.base) _
    rw [h3]; rfl
  · split at hU
    · simp only [Option.some.injEq] at hU; subst hU
      exact hT.2.1 hX
    · simp only [Option.some.injEq] at hU; subst hU
      obtain ⟨h1, h2⟩ : k < s'.size ∧ badB (byteAt s' k) = true := hX
      exact hT.2.2 (goods_bad h1 h2)
    · cases hU
set_option maxRecDepth 100000 in
theorem is_c (s : ByteArray) (w : World) (hs : s.size ≤ 9223372036854775807) : Calls Try.prog 41 #[.string s] w fun e w' => e = .returned (.bool (nameB s)) ∧ Ext w w' :=
  sym_b (S := ⟨Try.prog, [], [], noApp, labI.one, 40⟩) (I := labI) (L := [(2, isG (hdC (loopsC (bodyOf Try.f41)) 0) s)]) (args := [.one (.v (.string s))]) (us := [.string s]) (e := []) (mem := []) (SyOk.mk' Try.mixed (FnsOk.nil) (EqsOk.nil)) Try.func41 (by kernel_rfl) (lps1 (by kernel_rfl) (isG_ok s hs (SyOk.mk' Try.mixed FnsOk.nil EqsOk.nil))) ⟨rfl, trivial⟩ (by kernel_rfl) (memOk_nil _ w) [s = s] (by kernel_rfl) (by kernel_rfl) (by simp)
def F_is : Nat × Fn2 Lab := (41, fun us mem => match us with | [.one a0] => (match valP a0 with | some (.string s) => some ([s.size ≤ 9223372036854775807], svV (.bool (nameB s)), none) | _ => none) | _ => none)
theorem F_is_ok {W0 : World} {G : Nat → Prop} {F : Fns Lab} (ht : FnsOk Try.prog labI W0 G F) : FnsOk Try.prog labI W0 G (F_is :: F) :=
  FnsOk.cons Try.call41 (fun args mem ps r mo h hp w e us hM ha => by
    repeat' split at h
    all_goals first
      | (cases h; done)
      | skip
    simp only [Option.some.injEq, Prod.mk.injEq] at h
    obtain ⟨rfl, rfl, rfl⟩ := h
    simp only [allC_cons, allC_nil] at ha
    obtain ⟨u0, t0, rfl, hc0, rfl⟩ := ha
    obtain rfl := valP_is (by assumption) (show PV.is e _ _ from hc0)
    refine (is_c _ w  ?_).mono fun x w' ⟨h1, h2⟩ => ⟨_, h1, rfl, h2⟩
    all_goals first
      | (exact es_of hM (by assumption) (by assumption) (hp _ (by simp)))
      | (exact hp _ (by simp))) ht
def oddB (x : Int) : Bool := decide (x < 33) || decide (x > 126) || x == 47
set_option maxRecDepth 100000 in
theorem odd_c (x : Int) (w : World) : Calls Try.prog 46 #[.int .i32 x] w fun e w' => e = .returned (.bool (oddB x)) ∧ Ext w w' :=
  sym_b (S := ⟨Try.prog, [], [], noApp, labI.one, 40⟩) (I := labI) (L := []) (args := [.one (.v (.int .i32 x))]) (us := [.int .i32 x]) (e := []) (mem := []) (SyOk.mk' Try.mixed (FnsOk.nil) (EqsOk.nil)) Try.func46 (by kernel_rfl) (LpsOk.nil _) ⟨rfl, trivial⟩ (by kernel_rfl) (memOk_nil _ w) [] (by kernel_rfl) (by kernel_rfl) (by simp)
end Go.Proofs.Ytklemhmdbfhcdaa
