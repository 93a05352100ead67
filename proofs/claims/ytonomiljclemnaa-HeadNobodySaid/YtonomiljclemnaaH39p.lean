/- H16 H17 H18 H19 H20 H21 H24 H25 H26 H27 H28 H29 H30 H31 H32 HRd H37 H38 H39. -/
import Derived.Test.YtonomiljclemnaaH15p
import Derived.Test.YtonomiljclemnaaF2p
import Derived.Test.YtonomiljclemnaaOpenp
set_option linter.unusedVariables false
set_option linter.unusedSimpArgs false
namespace Go.Proofs.Ytonomiljclemnaa
open Go.RowKit
set_option maxRecDepth 100000 in
theorem newG_w0 (n : Int) (h0 : (decide (n < 1) || decide (n > 4096)) = false) (h1 : (0 : Int) ≤ n ∧ n ≤ 100000) : ∃ qs, wayO Id' (([] : Mem Td) : Mem Td).length [⟨.bx [.obj 1, .obj 2, .v (.int .i64 0), .v (.bool false), .v (.bool false)], true⟩, ⟨.us (.ext (.flat (.secs (List.replicate n.toNat sec0)))), true⟩, ⟨.us (.ext (.flat (.pens []))), true⟩] (.tup [.one (.ptr 0 0), .one (.kI .i64 0)]) ((runFn (⟨Try.prog, [], [], dkHo, Id'.one, 60⟩ : Sy Td) [] Try.f23 [.one (.v (.int .i64 n))] ([] : Mem Td)).al [false]) = some qs ∧ ∀ q ∈ qs, q :=
  ⟨[(decide (n < (1 : Int)) || decide (n > (4096 : Int))) = false, n = n, (0 : Int) ≤ n ∧ n ≤ (100000 : Int), Value.int IntKind.i64 (Int.ofNat 0) = Value.int IntKind.i64 (Int.ofNat 0), Value.bool false = Value.bool false, Value.bool false = Value.bool false, Th.ext (Dk.flat (FL.secs (List.replicate n.toNat sec0))) = Th.ext (Dk.flat (FL.secs (List.replicate n.toNat sec0))), ∀ (w : World), Id'.holds (Th.ext (Dk.flat (FL.pens []))) w nilV ∧ ∀ (j : Nat), ¬Id'.foot (Th.ext (Dk.flat (FL.pens []))) w nilV j, Value.int IntKind.i64 (Int.ofNat 0) = Value.int IntKind.i64 (Int.ofNat 0)], by kernel_rfl, (by refine mcons ?_ (mcons ?_ (mcons ?_ (mcons ?_ (mcons ?_ (mcons ?_ (mcons ?_ (mcons ?_ (mcons ?_ mnil)))))))) <;> first | rfl | exact h0 | exact h1 | trivial | (exact nil_pens rfl))⟩
def C_newG : Ctr Td := fun us sub => match us, sub with
  | [.one (.v (.int .i64 n))], [] => some ([1 ≤ n ∧ n ≤ 4096], .tup [.one (.ptr 0 0), .one (.kI .i64 0)], [⟨.bx [.obj 1, .obj 2, .v (.int .i64 0), .v (.bool false), .v (.bool false)], true⟩, ⟨.us (.ext (.flat (.secs (List.replicate n.toNat sec0)))), true⟩, ⟨.us (.ext (.flat (.pens []))), true⟩])
  | _, _ => none
set_option maxRecDepth 100000 in
theorem C_newG_ok : CtrOk Try.prog Id' 23 C_newG := by
  intro us sub ps x sm h hp w e vs hM ha
  unfold C_newG at h
  split at h
  · rename_i n
    simp only [Option.some.injEq, Prod.mk.injEq] at h
    obtain ⟨rfl, rfl, rfl⟩ := h
    have h := hp _ (List.mem_cons_self ..)
    have h0 : (decide (n < 1) || decide (n > 4096)) = false := by rw [decide_eq_false (by omega), decide_eq_false (by omega)]; rfl
    have h1 : (0 : Int) ≤ n ∧ n ≤ 100000 := by omega
    exact ctr_way (I := Id') (fun (W0 : World) (G : Nat → Prop) => SyOk.mk2 Try.mixed dkHo_ok (FnsR.nil) EqsOk.nil) rfl Try.func23 (by kernel_rfl) (fun _ _ => LpsOk.nil _) (cs := [false]) (by kernel_rfl) (newG_w0 n h0 h1) w e vs hM ha
  · cases h
end Go.Proofs.Ytonomiljclemnaa
set_option linter.unusedVariables false
set_option linter.unusedSimpArgs false
namespace Go.Proofs.Ytonomiljclemnaa
open Go.RowKit
end Go.Proofs.Ytonomiljclemnaa
set_option linter.unusedVariables false
set_option linter.unusedSimpArgs false
namespace Go.Proofs.Ytonomiljclemnaa
open Go.RowKit
def sectO (b : List UInt8) : List UInt8 := b.take 128 ++ List.replicate (128 - b.length) 0
theorem sect_len (b : List UInt8) : (sectO b).length = 128 := by simp [sectO]; omega
end Go.Proofs.Ytonomiljclemnaa
set_option linter.unusedVariables false
set_option linter.unusedSimpArgs false
namespace Go.Proofs.Ytonomiljclemnaa
open Go.RowKit
end Go.Proofs.Ytonomiljclemnaa
set_option linter.unusedVariables false
set_option linter.unusedSimpArgs false
namespace Go.Proofs.Ytonomiljclemnaa
open Go.RowKit
end Go.Proofs.Ytonomiljclemnaa
set_option linter.unusedVariables false
set_option linter.unusedSimpArgs false
namespace Go.Proofs.Ytonomiljclemnaa
open Go.RowKit
set_option maxRecDepth 100000 in
theorem sizeN_w0   : ∃ qs, wayV ((runFn (⟨Try.prog, [], [], dkHo, Id'.one, 60⟩ : Sy Td) [] Try.f33 [.one (.v (.pointer none))] (roM [])).al []) (fun u => u = .int .i64 0) = some qs ∧ ∀ q ∈ qs, q :=
  ⟨[Value.int IntKind.i64 (Int.ofNat 0) = Value.int IntKind.i64 (Int.ofNat 0)], by kernel_rfl, (by refine mcons ?_ mnil <;> first | rfl | trivial)⟩
def C_sizeN : CtrV Td := fun us sub => match us, sub with
  | [.one (.v (.pointer none))], [] => some ([], .int .i64 0)
  | _, _ => none
set_option maxRecDepth 100000 in
theorem C_sizeN_ok : CtrVOk Try.prog Id' 33 C_sizeN := by
  intro us sub ps x h hp w e vs hM ha
  unfold C_sizeN at h
  split at h
  · skip
    simp only [Option.some.injEq, Prod.mk.injEq] at h
    obtain ⟨rfl, rfl⟩ := h
    exact ctrv_way (I := Id') (fun (W0 : World) (G : Nat → Prop) => SyOk.mk2 Try.mixed dkHo_ok (FnsR.nil) EqsOk.nil) rfl Try.func33 (by kernel_rfl) (fun _ _ => LpsOk.nil _) (cs := []) (by kernel_rfl) (sizeN_w0  ) w e vs hM ha
  · cases h
theorem R_sizeN : RowOk Try.prog Id' hardD 33 (ctrV C_sizeN hardD) := ctrV_ok Try.call33 C_sizeN_ok
end Go.Proofs.Ytonomiljclemnaa
set_option linter.unusedVariables false
set_option linter.unusedSimpArgs false
namespace Go.Proofs.Ytonomiljclemnaa
open Go.RowKit
end Go.Proofs.Ytonomiljclemnaa
set_option linter.unusedVariables false
set_option linter.unusedSimpArgs false
namespace Go.Proofs.Ytonomiljclemnaa
open Go.RowKit
end Go.Proofs.Ytonomiljclemnaa
set_option linter.unusedVariables false
set_option linter.unusedSimpArgs false
namespace Go.Proofs.Ytonomiljclemnaa
open Go.RowKit
end Go.Proofs.Ytonomiljclemnaa
set_option linter.unusedVariables false
set_option linter.unusedSimpArgs false
namespace Go.Proofs.Ytonomiljclemnaa
open Go.RowKit
def rdBad (i n : Int) : Bool := decide (i < 0) || decide (i ≥ n)
end Go.Proofs.Ytonomiljclemnaa
set_option linter.unusedVariables false
set_option linter.unusedSimpArgs false
namespace Go.Proofs.Ytonomiljclemnaa
open Go.RowKit
end Go.Proofs.Ytonomiljclemnaa
set_option linter.unusedVariables false
set_option linter.unusedSimpArgs false
namespace Go.Proofs.Ytonomiljclemnaa
open Go.RowKit
end Go.Proofs.Ytonomiljclemnaa
set_option linter.unusedVariables false
set_option linter.unusedSimpArgs false
namespace Go.Proofs.Ytonomiljclemnaa
open Go.RowKit
end Go.Proofs.Ytonomiljclemnaa
set_option linter.unusedVariables false
set_option linter.unusedSimpArgs false
namespace Go.Proofs.Ytonomiljclemnaa
open Go.RowKit
structure DoD where
  kind : Int
  at' : Int
  n : Int
  b : List UInt8
  sh : Bool
  ks : List Int
def DoD.zero : DoD := ⟨0, 0, 0, [], false, []⟩
end Go.Proofs.Ytonomiljclemnaa
set_option linter.unusedVariables false
set_option linter.unusedSimpArgs false
namespace Go.Proofs.Ytonomiljclemnaa
open Go.RowKit
structure DS where
  L : List (List UInt8)
  Q : List (Int × List UInt8)
  fu : Int
  fd : Bool
  off : Bool
structure DInv (n k : Nat) (s : DS) : Prop where
  L : WidL s.L
  len : s.L.length = n
  Q : ∀ q ∈ s.Q, q.2.length = 128
  k : s.Q.length ≤ k
  at' : AtQ n s.Q
  fu : 0 ≤ s.fu ∧ s.fu ≤ 9223372036854775807
  off : s.off = true → s.fd = true ∧ s.fu = 0
theorem DInv.wq {n k : Nat} {s : DS} (h : DInv n k s) (hk : k ≤ 100000) : WidQ s.Q := ⟨h.Q, Nat.le_trans h.k hk⟩
theorem DInv.mono {n k : Nat} {s : DS} (h : DInv n k s) : DInv n (k + 1) s := ⟨h.L, h.len, h.Q, Nat.le_succ_of_le h.k, h.at', h.fu, h.off⟩
theorem st_in {off fd : Bool} {fu : Int} (h0 : 0 ≤ fu ∧ fu ≤ 9223372036854775807) : 0 ≤ stFu off fd fu ∧ stFu off fd fu ≤ 9223372036854775807 := by
  unfold stFu
  cases hc : (!off && (fd && !(fu == 0))) with
  | false => simpa using h0
  | true =>
    have h1 : fu ≠ 0 := by
      intro e; subst e; simp at hc
    rw [cond_true, IntWalk.i64_in _ (by omega)]
    omega
theorem st_off {off fd : Bool} {fu : Int} (h : off = true → fd = true ∧ fu = 0) (h1 : stOff off fd fu = true) : fd = true ∧ stFu off fd fu = 0 := by
  unfold stOff at h1
  unfold stFu
  cases off with
  | true => obtain ⟨rfl, rfl⟩ := h rfl; simp
  | false =>
    simp at h1
    obtain ⟨rfl, rfl⟩ := h1
    simp
theorem rdBad_wrong {n : Nat} (hn : 0 < n) (i : Int) : (wrongI (n : Int) i != 0) = rdBad i (n : Int) := by
  have : ((n : Int) == 0) = false := beq_eq_false_iff_ne.2 (by omega)
  unfold wrongI rdBad
  rw [this]
  cases (decide (i < 0) || decide (i ≥ (n : Int))) <;> simp
theorem wrB_eq {n : Nat} (hn : 0 < n) (i m : Int) : wrB (n : Int) i m = !(rdBad i (n : Int) || m != 128) := by
  unfold wrB
  have h := rdBad_wrong hn i
  cases hw : (wrongI (n : Int) i == 0)
  · have : (wrongI (n : Int) i != 0) = true := by simp [bne, hw]
    rw [this] at h
    rw [← h]; simp
  · have : (wrongI (n : Int) i != 0) = false := by simp [bne, hw]
    rw [this] at h
    rw [← h]
    simp [bne]
def wrS (n : Nat) (i : Int) (b : List UInt8) (s : DS) : DS := ⟨s.L, wrQ s.Q (n : Int) i b s.off s.fd s.fu, wrFu (n : Int) i (b.length : Int) s.off s.fd s.fu, s.fd, wrOff (n : Int) i (b.length : Int) s.off s.fd s.fu⟩
theorem wr_inv {n k : Nat} {s : DS} (h : DInv n k s) (hn : 0 < n) (i : Int) (b : List UInt8) : DInv n (k + 1) (wrS n i b s) := by
  unfold wrS
  have hB : wrB (n : Int) i (b.length : Int) = true → (0 ≤ i ∧ i.toNat < n) ∧ b.length = 128 := fun hb => by
    rw [wrB_eq hn] at hb
    simp [rdBad] at hb
    omega
  refine ⟨h.L, h.len, fun q hq => ?_, ?_, fun q hq => ?_, ?_, fun ho => ?_⟩
  · simp only [wrQ] at hq
    cases hc : (wrB (n : Int) i (b.length : Int) && !stOff s.off s.fd s.fu) with
    | false => rw [hc] at hq; exact h.Q q hq
    | true =>
      rw [hc] at hq
      rcases List.mem_append.1 hq with hq | hq
      · exact h.Q q hq
      · simp at hq; subst hq
        simp at hc
        exact (hB hc.1).2
  · simp only [wrQ]
    have := h.k
    cases (wrB (n : Int) i (b.length : Int) && !stOff s.off s.fd s.fu) <;> simp <;> omega
  · simp only [wrQ] at hq
    cases hc : (wrB (n : Int) i (b.length : Int) && !stOff s.off s.fd s.fu) with
    | false => rw [hc] at hq; exact h.at' q hq
    | true =>
      rw [hc] at hq
      rcases List.mem_append.1 hq with hq | hq
      · exact h.at' q hq
      · simp at hq; subst hq
        simp at hc
        exact (hB hc.1).1
  · simp only [wrFu]
    cases wrB (n : Int) i (b.length : Int)
    · exact h.fu
    · exact st_in h.fu
  · simp only [wrOff, wrFu] at ho ⊢
    cases hc : wrB (n : Int) i (b.length : Int) with
    | false => rw [hc] at ho; exact h.off ho
    | true => rw [hc] at ho; exact st_off h.off ho
def flS (n : Nat) (s : DS) : DS := ⟨flL s.L s.Q (flE (n : Int) s.off s.fd s.fu), flP s.Q (flE (n : Int) s.off s.fd s.fu), flFu (n : Int) s.off s.fd s.fu, s.fd, flOff (n : Int) s.off s.fd s.fu⟩
theorem fl_inv {n k : Nat} {s : DS} (h : DInv n k s) (hn : 0 < n) (hk : k ≤ 100000) : DInv n (k + 1) (flS n s) := by
  have h0 : ((n : Int) == 0) = false := beq_eq_false_iff_ne.2 (by omega)
  have hQ := h.wq hk
  have hw : WidL (flD s.L s.Q) := flQ_wid h.L hQ _ (Nat.le_refl _)
  unfold flS
  refine ⟨?_, ?_, fun q hq => ?_, ?_, fun q hq => ?_, ?_, fun ho => ?_⟩
  · simp only [flL]; cases (flE (n : Int) s.off s.fd s.fu == 0)
    · exact h.L
    · exact hw
  · simp only [flL]; cases (flE (n : Int) s.off s.fd s.fu == 0)
    · exact h.len
    · exact (flQ_len _ _ _).trans h.len
  · simp only [flP] at hq; cases hc : (flE (n : Int) s.off s.fd s.fu == 0) <;> rw [hc] at hq
    · exact h.Q q hq
    · cases hq
  · simp only [flP]; have := h.k; cases (flE (n : Int) s.off s.fd s.fu == 0) <;> simp <;> omega
  · simp only [flP] at hq; cases hc : (flE (n : Int) s.off s.fd s.fu == 0) <;> rw [hc] at hq
    · exact h.at' q hq
    · cases hq
  · simp only [flFu, h0, cond_false]; exact st_in h.fu
  · simp only [flFu, flOff, h0, cond_false] at ho ⊢; exact st_off h.off ho
end Go.Proofs.Ytonomiljclemnaa
set_option linter.unusedVariables false
set_option linter.unusedSimpArgs false
namespace Go.Proofs.Ytonomiljclemnaa
open Go.RowKit Go.ChangeShapes Go.WideShapes Go.ChangeAt
section
variable {H : Type} {enc : TypeId × Value → H} {W : World}
end
end Go.Proofs.Ytonomiljclemnaa
set_option linter.unusedVariables false
set_option linter.unusedSimpArgs false
namespace Go.Proofs.Ytonomiljclemnaa
open Go.RowKit
def withI (x a b : Int) : Int := bif decide (x < a) then a else bif decide (x > b) then b else x
theorem withI_in (x : Int) {a b : Int} (h : a ≤ b) : a ≤ withI x a b ∧ withI x a b ≤ b := by
  unfold withI
  by_cases h1 : x < a
  · rw [decide_eq_true h1, cond_true]; omega
  · rw [decide_eq_false h1, cond_false]
    by_cases h2 : x > b
    · rw [decide_eq_true h2, cond_true]; omega
    · rw [decide_eq_false h2, cond_false]; omega
end Go.Proofs.Ytonomiljclemnaa
set_option linter.unusedVariables false
set_option linter.unusedSimpArgs false
namespace Go.Proofs.Ytonomiljclemnaa
open Go.RowKit
end Go.Proofs.Ytonomiljclemnaa
set_option linter.unusedVariables false
set_option linter.unusedSimpArgs false
namespace Go.Proofs.Ytonomiljclemnaa
open Go.RowKit
end Go.Proofs.Ytonomiljclemnaa
