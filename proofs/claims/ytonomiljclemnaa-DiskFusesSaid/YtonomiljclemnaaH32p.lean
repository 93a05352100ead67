/- H25 H26 H27 H28 H29 H30 H31 H32. -/
import Derived.Test.YtonomiljclemnaaH24p
import Derived.Test.YtonomiljclemnaaF2p
set_option linter.unusedVariables false
set_option linter.unusedSimpArgs false
namespace Go.Proofs.Ytonomiljclemnaa
open Go.RowKit
end Go.Proofs.Ytonomiljclemnaa
set_option linter.unusedVariables false
set_option linter.unusedSimpArgs false
namespace Go.Proofs.Ytonomiljclemnaa
open Go.RowKit
end Go.Proofs.Ytonomiljclemnaa
set_option linter.unusedVariables false
set_option linter.unusedSimpArgs false
namespace Go.Proofs.Ytonomiljclemnaa
open Go.RowKit
def rdBad (i n : Int) : Bool := decide (i < 0) || decide (i ≥ n)
theorem nil_tabL {X : List (List UInt8)} (h : X = []) : ∀ w, Id'.holds (Th.ext (Dk.tab (.bs X)) : Td) w nilV ∧ ∀ j, ¬ Id'.foot (Th.ext (Dk.tab (.bs X)) : Td) w nilV j := by
  subst h
  refine fun w => ⟨⟨(fun r hr => by cases hr), (fun r hr => by cases hr), [], rfl, ⟨0, Nat.zero_le _, owns_nilV w 0 _ _⟩, fun i v r hv _ => by cases hv⟩, fun j h => ?_⟩
  rcases h with h | ⟨i, r, v, h, _⟩
  · cases h
  · cases h
end Go.Proofs.Ytonomiljclemnaa
set_option linter.unusedVariables false
set_option linter.unusedSimpArgs false
namespace Go.Proofs.Ytonomiljclemnaa
open Go.RowKit
theorem crQ_wid {L : List (List UInt8)} {Q : List (Int × List UInt8)} {ks : List Int} {tn : Int} (hL : WidL L) (hQ : WidQ Q) (hA : AtQ L.length Q) : ∀ k, k ≤ Q.length → WidL (crQ L Q ks tn k)
  | 0, _ => hL
  | k + 1, hk => by
    intro l hl
    simp only [crQ] at hl
    rcases List.mem_or_eq_of_mem_set hl with h | h
    · exact crQ_wid hL hQ hA k (by omega) l h
    · have h1 : (Q.getD k (0, [])).2.length = 128 := WidQ.at hQ (k := (k : Int)) ⟨by omega, by omega⟩
      have h2 := AtQ.at hA (k := (k : Int)) ⟨by omega, by omega⟩
      rw [Int.toNat_natCast] at h2
      have h3 : ((crQ L Q ks tn k).getD (Q.getD k (0, [])).1.toNat []).length = 128 := WidL.at (crQ_wid hL hQ hA k (by omega)) (k := (Q.getD k (0, [])).1) ⟨h2.1, by rw [crQ_len]; exact h2.2⟩
      have h4 := kpI_in (Q.length : Int) (k : Int) tn ks
      have h5 : crN Q ks tn k ≤ 128 := by unfold crN; omega
      rw [h, List.length_append, List.length_take, List.length_drop, h1, h3]
      omega
end Go.Proofs.Ytonomiljclemnaa
set_option linter.unusedVariables false
set_option linter.unusedSimpArgs false
namespace Go.Proofs.Ytonomiljclemnaa
open Go.RowKit
end Go.Proofs.Ytonomiljclemnaa
set_option linter.unusedVariables false
set_option linter.unusedSimpArgs false
namespace Go.Proofs.Ytonomiljclemnaa
open Go.RowKit
end Go.Proofs.Ytonomiljclemnaa
set_option linter.unusedVariables false
set_option linter.unusedSimpArgs false
namespace Go.Proofs.Ytonomiljclemnaa
open Go.RowKit
structure DoD where
  kind : Int
  at' : Int
  n : Int
  b : List UInt8
  sh : Bool
  ks : List Int
def DoD.zero : DoD := ⟨0, 0, 0, [], false, []⟩
def doEl (l : List DoD) (i : Nat) : List CD := [.v (.int .i64 (l.getD i DoD.zero).kind), .v (.int .i64 (l.getD i DoD.zero).at'), .v (.int .i64 (l.getD i DoD.zero).n), .bs (l.getD i DoD.zero).b, .v (.bool (l.getD i DoD.zero).sh), .ns (l.getD i DoD.zero).ks]
end Go.Proofs.Ytonomiljclemnaa
set_option linter.unusedVariables false
set_option linter.unusedSimpArgs false
namespace Go.Proofs.Ytonomiljclemnaa
open Go.RowKit
structure DS where
  L : List (List UInt8)
  Q : List (Int × List UInt8)
  fu : Int
  fd : Bool
  off : Bool
structure DInv (n k : Nat) (s : DS) : Prop where
  L : WidL s.L
  len : s.L.length = n
  Q : ∀ q ∈ s.Q, q.2.length = 128
  k : s.Q.length ≤ k
  at' : AtQ n s.Q
  fu : 0 ≤ s.fu ∧ s.fu ≤ 9223372036854775807
  off : s.off = true → s.fd = true ∧ s.fu = 0
theorem DInv.wq {n k : Nat} {s : DS} (h : DInv n k s) (hk : k ≤ 100000) : WidQ s.Q := ⟨h.Q, Nat.le_trans h.k hk⟩
theorem DInv.mono {n k : Nat} {s : DS} (h : DInv n k s) : DInv n (k + 1) s := ⟨h.L, h.len, h.Q, Nat.le_succ_of_le h.k, h.at', h.fu, h.off⟩
theorem st_in {off fd : Bool} {fu : Int} (h0 : 0 ≤ fu ∧ fu ≤ 9223372036854775807) : 0 ≤ stFu off fd fu ∧ stFu off fd fu ≤ 9223372036854775807 := by
  unfold stFu
  cases hc : (!off && (fd && !(fu == 0))) with
  | false => simpa using h0
  | true =>
    have h1 : fu ≠ 0 := by
      intro e; subst e; simp at hc
    rw [cond_true, IntWalk.i64_in _ (by omega)]
    omega
theorem st_off {off fd : Bool} {fu : Int} (h : off = true → fd = true ∧ fu = 0) (h1 : stOff off fd fu = true) : fd = true ∧ stFu off fd fu = 0 := by
  unfold stOff at h1
  unfold stFu
  cases off with
  | true => obtain ⟨rfl, rfl⟩ := h rfl; simp
  | false =>
    simp at h1
    obtain ⟨rfl, rfl⟩ := h1
    simp
theorem rdBad_wrong {n : Nat} (hn : 0 < n) (i : Int) : (wrongI (n : Int) i != 0) = rdBad i (n : Int) := by
  have : ((n : Int) == 0) = false := beq_eq_false_iff_ne.2 (by omega)
  unfold wrongI rdBad
  rw [this]
  cases (decide (i < 0) || decide (i ≥ (n : Int))) <;> simp
theorem wrB_eq {n : Nat} (hn : 0 < n) (i m : Int) : wrB (n : Int) i m = !(rdBad i (n : Int) || m != 128) := by
  unfold wrB
  have h := rdBad_wrong hn i
  cases hw : (wrongI (n : Int) i == 0)
  · have : (wrongI (n : Int) i != 0) = true := by simp [bne, hw]
    rw [this] at h
    rw [← h]; simp
  · have : (wrongI (n : Int) i != 0) = false := by simp [bne, hw]
    rw [this] at h
    rw [← h]
    simp [bne]
def wrS (n : Nat) (i : Int) (b : List UInt8) (s : DS) : DS := ⟨s.L, wrQ s.Q (n : Int) i b s.off s.fd s.fu, wrFu (n : Int) i (b.length : Int) s.off s.fd s.fu, s.fd, wrOff (n : Int) i (b.length : Int) s.off s.fd s.fu⟩
theorem wr_inv {n k : Nat} {s : DS} (h : DInv n k s) (hn : 0 < n) (i : Int) (b : List UInt8) : DInv n (k + 1) (wrS n i b s) := by
  unfold wrS
  have hB : wrB (n : Int) i (b.length : Int) = true → (0 ≤ i ∧ i.toNat < n) ∧ b.length = 128 := fun hb => by
    rw [wrB_eq hn] at hb
    simp [rdBad] at hb
    omega
  refine ⟨h.L, h.len, fun q hq => ?_, ?_, fun q hq => ?_, ?_, fun ho => ?_⟩
  · simp only [wrQ] at hq
    cases hc : (wrB (n : Int) i (b.length : Int) && !stOff s.off s.fd s.fu) with
    | false => rw [hc] at hq; exact h.Q q hq
    | true =>
      rw [hc] at hq
      rcases List.mem_append.1 hq with hq | hq
      · exact h.Q q hq
      · simp at hq; subst hq
        simp at hc
        exact (hB hc.1).2
  · simp only [wrQ]
    have := h.k
    cases (wrB (n : Int) i (b.length : Int) && !stOff s.off s.fd s.fu) <;> simp <;> omega
  · simp only [wrQ] at hq
    cases hc : (wrB (n : Int) i (b.length : Int) && !stOff s.off s.fd s.fu) with
    | false => rw [hc] at hq; exact h.at' q hq
    | true =>
      rw [hc] at hq
      rcases List.mem_append.1 hq with hq | hq
      · exact h.at' q hq
      · simp at hq; subst hq
        simp at hc
        exact (hB hc.1).1
  · simp only [wrFu]
    cases wrB (n : Int) i (b.length : Int)
    · exact h.fu
    · exact st_in h.fu
  · simp only [wrOff, wrFu] at ho ⊢
    cases hc : wrB (n : Int) i (b.length : Int) with
    | false => rw [hc] at ho; exact h.off ho
    | true => rw [hc] at ho; exact st_off h.off ho
def flS (n : Nat) (s : DS) : DS := ⟨flL s.L s.Q (flE (n : Int) s.off s.fd s.fu), flP s.Q (flE (n : Int) s.off s.fd s.fu), flFu (n : Int) s.off s.fd s.fu, s.fd, flOff (n : Int) s.off s.fd s.fu⟩
theorem fl_inv {n k : Nat} {s : DS} (h : DInv n k s) (hn : 0 < n) (hk : k ≤ 100000) : DInv n (k + 1) (flS n s) := by
  have h0 : ((n : Int) == 0) = false := beq_eq_false_iff_ne.2 (by omega)
  have hQ := h.wq hk
  have hw : WidL (flD s.L s.Q) := flQ_wid h.L hQ _ (Nat.le_refl _)
  unfold flS
  refine ⟨?_, ?_, fun q hq => ?_, ?_, fun q hq => ?_, ?_, fun ho => ?_⟩
  · simp only [flL]; cases (flE (n : Int) s.off s.fd s.fu == 0)
    · exact h.L
    · exact hw
  · simp only [flL]; cases (flE (n : Int) s.off s.fd s.fu == 0)
    · exact h.len
    · exact (flQ_len _ _ _).trans h.len
  · simp only [flP] at hq; cases hc : (flE (n : Int) s.off s.fd s.fu == 0) <;> rw [hc] at hq
    · exact h.Q q hq
    · cases hq
  · simp only [flP]; have := h.k; cases (flE (n : Int) s.off s.fd s.fu == 0) <;> simp <;> omega
  · simp only [flP] at hq; cases hc : (flE (n : Int) s.off s.fd s.fu == 0) <;> rw [hc] at hq
    · exact h.at' q hq
    · cases hq
  · simp only [flFu, h0, cond_false]; exact st_in h.fu
  · simp only [flFu, flOff, h0, cond_false] at ho ⊢; exact st_off h.off ho
def crS (ks : List Int) (tn : Int) (s : DS) : DS := ⟨crD s.L s.Q ks tn, [], s.fu, false, false⟩
theorem cr_inv {n k : Nat} {s : DS} (h : DInv n k s) (hk : k ≤ 100000) (ks : List Int) (tn : Int) : DInv n (k + 1) (crS ks tn s) :=
  ⟨crQ_wid h.L (h.wq hk) (by rw [h.len]; exact h.at') _ (Nat.le_refl _), (crQ_len _ _ _ _ _).trans h.len, (fun q hq => by cases hq), Nat.zero_le _, (fun q hq => by cases hq), h.fu, (fun h => by cases h)⟩
def DoOk (l : List DoD) : Prop := ∀ d ∈ l, d.n ≤ 9223372036854775807 ∧ d.b.length ≤ 9223372036854775807
def new0 (n : Nat) : DS := ⟨List.replicate n sec0, [], 0, false, false⟩
theorem new0_inv (n : Nat) : DInv n 0 (new0 n) := ⟨(fun l hl => by rw [List.eq_of_mem_replicate hl]; rfl), List.length_replicate, (fun q hq => by cases hq), Nat.le_refl _, (fun q hq => by cases hq), ⟨Int.le_refl 0, (by show (0 : Int) ≤ _; decide)⟩, fun h => by cases h⟩
end Go.Proofs.Ytonomiljclemnaa
