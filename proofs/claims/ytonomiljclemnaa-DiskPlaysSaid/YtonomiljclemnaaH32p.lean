/- The disk and the document's: step by step alike. No program in sight. -/
import Derived.Test.YtonomiljclemnaaH31p
set_option linter.unusedVariables false
set_option linter.unusedSimpArgs false
namespace Go.Proofs.Ytonomiljclemnaa
open Go.RowKit
structure DS where
  L : List (List UInt8)
  Q : List (Int × List UInt8)
  fu : Int
  fd : Bool
  off : Bool
def rOf (fd : Bool) (fu : Int) : Int := bif fd then fu else -1
structure DInv (n k : Nat) (s : DS) : Prop where
  L : WidL s.L
  len : s.L.length = n
  Q : ∀ q ∈ s.Q, q.2.length = 128
  k : s.Q.length ≤ k
  at' : AtQ n s.Q
  fu : 0 ≤ s.fu ∧ s.fu ≤ 9223372036854775807
  off : s.off = true → s.fd = true ∧ s.fu = 0
theorem DInv.wq {n k : Nat} {s : DS} (h : DInv n k s) (hk : k ≤ 100000) : WidQ s.Q := ⟨h.Q, Nat.le_trans h.k hk⟩
theorem DInv.mono {n k : Nat} {s : DS} (h : DInv n k s) : DInv n (k + 1) s := ⟨h.L, h.len, h.Q, Nat.le_succ_of_le h.k, h.at', h.fu, h.off⟩
theorem rOf_off (off fd : Bool) (fu : Int) : rOff off (rOf fd fu) = stOff off fd fu := by
  unfold rOff rOf stOff
  cases fd
  · simp
  · simp
theorem rOf_fu {off fd : Bool} {fu : Int} (h0 : 0 ≤ fu) (h : off = true → fd = true ∧ fu = 0) : rFu (rOf fd fu) = rOf fd (stFu off fd fu) := by
  unfold rFu rOf stFu
  cases fd with
  | false => simp
  | true =>
    cases off with
    | true =>
      obtain ⟨_, rfl⟩ := h rfl
      simp
    | false =>
      by_cases h1 : fu = 0
      · subst h1; simp
      · have : 0 < fu := by omega
        have h2 : (fu == 0) = false := beq_eq_false_iff_ne.2 h1
        simp only [cond_true, this, decide_true, gt_iff_lt, h2, Bool.not_false, Bool.and_self, Bool.true_and]
theorem st_in {off fd : Bool} {fu : Int} (h0 : 0 ≤ fu ∧ fu ≤ 9223372036854775807) : 0 ≤ stFu off fd fu ∧ stFu off fd fu ≤ 9223372036854775807 := by
  unfold stFu
  cases hc : (!off && (fd && !(fu == 0))) with
  | false => simpa using h0
  | true =>
    have h1 : fu ≠ 0 := by
      intro e; subst e; simp at hc
    rw [cond_true, IntWalk.i64_in _ (by omega)]
    omega
theorem st_off {off fd : Bool} {fu : Int} (h : off = true → fd = true ∧ fu = 0) (h1 : stOff off fd fu = true) : fd = true ∧ stFu off fd fu = 0 := by
  unfold stOff at h1
  unfold stFu
  cases off with
  | true => obtain ⟨rfl, rfl⟩ := h rfl; simp
  | false =>
    simp at h1
    obtain ⟨rfl, rfl⟩ := h1
    simp
theorem rdBad_wrong {n : Nat} (hn : 0 < n) (i : Int) : (wrongI (n : Int) i != 0) = rdBad i (n : Int) := by
  have : ((n : Int) == 0) = false := beq_eq_false_iff_ne.2 (by omega)
  unfold wrongI rdBad
  rw [this]
  cases (decide (i < 0) || decide (i ≥ (n : Int))) <;> simp
theorem wrB_eq {n : Nat} (hn : 0 < n) (i m : Int) : wrB (n : Int) i m = !(rdBad i (n : Int) || m != 128) := by
  unfold wrB
  have h := rdBad_wrong hn i
  cases hw : (wrongI (n : Int) i == 0)
  · have : (wrongI (n : Int) i != 0) = true := by simp [bne, hw]
    rw [this] at h
    rw [← h]; simp
  · have : (wrongI (n : Int) i != 0) = false := by simp [bne, hw]
    rw [this] at h
    rw [← h]
    simp [bne]
theorem wrE_eq {n : Nat} (hn : 0 < n) (i m : Int) (off fd : Bool) (fu : Int) : wrE (n : Int) i m off fd fu = rwE i (n : Int) m off (rOf fd fu) := by
  have h := rdBad_wrong hn i
  have h0 : ((n : Int) == 0) = false := beq_eq_false_iff_ne.2 (by omega)
  unfold wrE rwE
  rw [rOf_off]
  cases hb : rdBad i (n : Int) with
  | true =>
    have hw : wrongI (n : Int) i = 2 := by
      unfold wrongI
      unfold rdBad at hb
      rw [h0, hb]; rfl
    rw [hw]; simp
  | false =>
    rw [hb] at h
    rw [h]
    cases (m != 128) <;> simp
def wrS (n : Nat) (i : Int) (b : List UInt8) (s : DS) : DS := ⟨s.L, wrQ s.Q (n : Int) i b s.off s.fd s.fu, wrFu (n : Int) i (b.length : Int) s.off s.fd s.fu, s.fd, wrOff (n : Int) i (b.length : Int) s.off s.fd s.fu⟩
theorem wr_inv {n k : Nat} {s : DS} (h : DInv n k s) (hn : 0 < n) (i : Int) (b : List UInt8) : DInv n (k + 1) (wrS n i b s) := by
  unfold wrS
  have hB : wrB (n : Int) i (b.length : Int) = true → (0 ≤ i ∧ i.toNat < n) ∧ b.length = 128 := fun hb => by
    rw [wrB_eq hn] at hb
    simp [rdBad] at hb
    omega
  refine ⟨h.L, h.len, fun q hq => ?_, ?_, fun q hq => ?_, ?_, fun ho => ?_⟩
  · simp only [wrQ] at hq
    cases hc : (wrB (n : Int) i (b.length : Int) && !stOff s.off s.fd s.fu) with
    | false => rw [hc] at hq; exact h.Q q hq
    | true =>
      rw [hc] at hq
      rcases List.mem_append.1 hq with hq | hq
      · exact h.Q q hq
      · simp at hq; subst hq
        simp at hc
        exact (hB hc.1).2
  · simp only [wrQ]
    have := h.k
    cases (wrB (n : Int) i (b.length : Int) && !stOff s.off s.fd s.fu) <;> simp <;> omega
  · simp only [wrQ] at hq
    cases hc : (wrB (n : Int) i (b.length : Int) && !stOff s.off s.fd s.fu) with
    | false => rw [hc] at hq; exact h.at' q hq
    | true =>
      rw [hc] at hq
      rcases List.mem_append.1 hq with hq | hq
      · exact h.at' q hq
      · simp at hq; subst hq
        simp at hc
        exact (hB hc.1).1
  · simp only [wrFu]
    cases wrB (n : Int) i (b.length : Int)
    · exact h.fu
    · exact st_in h.fu
  · simp only [wrOff, wrFu] at ho ⊢
    cases hc : wrB (n : Int) i (b.length : Int) with
    | false => rw [hc] at ho; exact h.off ho
    | true => rw [hc] at ho; exact st_off h.off ho
theorem rwFu_eq {n k : Nat} {s : DS} (h : DInv n k s) (hn : 0 < n) (i m : Int) : rwFu i (n : Int) m (rOf s.fd s.fu) = rOf s.fd (wrFu (n : Int) i m s.off s.fd s.fu) := by
  unfold rwFu wrFu
  rw [wrB_eq hn]
  cases (rdBad i (n : Int) || m != 128) with
  | true => rfl
  | false => exact rOf_fu h.fu.1 h.off
theorem rwOff_eq {n : Nat} {s : DS} (hn : 0 < n) (i m : Int) : rwOff i (n : Int) m s.off (rOf s.fd s.fu) = wrOff (n : Int) i m s.off s.fd s.fu := by
  unfold rwOff wrOff
  rw [wrB_eq hn, rOf_off]
  cases (rdBad i (n : Int) || m != 128) <;> rfl
theorem rwQ_eq {n : Nat} {s : DS} (hn : 0 < n) (i : Int) (b : List UInt8) : rwQ s.Q i (n : Int) b s.off (rOf s.fd s.fu) = wrQ s.Q (n : Int) i b s.off s.fd s.fu := by
  unfold rwQ wrQ rwE
  rw [wrB_eq hn, rOf_off]
  cases (rdBad i (n : Int) || (b.length : Int) != 128) <;> cases stOff s.off s.fd s.fu <;> rfl
def flS (n : Nat) (s : DS) : DS := ⟨flL s.L s.Q (flE (n : Int) s.off s.fd s.fu), flP s.Q (flE (n : Int) s.off s.fd s.fu), flFu (n : Int) s.off s.fd s.fu, s.fd, flOff (n : Int) s.off s.fd s.fu⟩
theorem flE_eq {n : Nat} (hn : 0 < n) (off fd : Bool) (fu : Int) : flE (n : Int) off fd fu = rfE off (rOf fd fu) := by
  have h0 : ((n : Int) == 0) = false := beq_eq_false_iff_ne.2 (by omega)
  unfold flE rfE
  rw [h0, rOf_off]; rfl
theorem fl_eq {n k : Nat} {s : DS} (h : DInv n k s) (hn : 0 < n) : rfL s.L s.Q s.off (rOf s.fd s.fu) = (flS n s).L ∧ rfQ s.Q s.off (rOf s.fd s.fu) = (flS n s).Q ∧ rFu (rOf s.fd s.fu) = rOf (flS n s).fd (flS n s).fu ∧ rOff s.off (rOf s.fd s.fu) = (flS n s).off := by
  have h0 : ((n : Int) == 0) = false := beq_eq_false_iff_ne.2 (by omega)
  unfold flS
  simp only
  rw [flE_eq hn]
  refine ⟨?_, ?_, ?_, ?_⟩
  · unfold rfL flL rfE
    cases rOff s.off (rOf s.fd s.fu) <;> rfl
  · unfold rfQ flP rfE
    cases rOff s.off (rOf s.fd s.fu) <;> rfl
  · unfold flFu
    rw [h0]
    exact rOf_fu h.fu.1 h.off
  · unfold flOff
    rw [h0, rOf_off]; rfl
theorem fl_inv {n k : Nat} {s : DS} (h : DInv n k s) (hn : 0 < n) (hk : k ≤ 100000) : DInv n (k + 1) (flS n s) := by
  have h0 : ((n : Int) == 0) = false := beq_eq_false_iff_ne.2 (by omega)
  have hQ := h.wq hk
  have hw : WidL (flD s.L s.Q) := flQ_wid h.L hQ _ (Nat.le_refl _)
  unfold flS
  refine ⟨?_, ?_, fun q hq => ?_, ?_, fun q hq => ?_, ?_, fun ho => ?_⟩
  · simp only [flL]; cases (flE (n : Int) s.off s.fd s.fu == 0)
    · exact h.L
    · exact hw
  · simp only [flL]; cases (flE (n : Int) s.off s.fd s.fu == 0)
    · exact h.len
    · exact (flQ_len _ _ _).trans h.len
  · simp only [flP] at hq; cases hc : (flE (n : Int) s.off s.fd s.fu == 0) <;> rw [hc] at hq
    · exact h.Q q hq
    · cases hq
  · simp only [flP]; have := h.k; cases (flE (n : Int) s.off s.fd s.fu == 0) <;> simp <;> omega
  · simp only [flP] at hq; cases hc : (flE (n : Int) s.off s.fd s.fu == 0) <;> rw [hc] at hq
    · exact h.at' q hq
    · cases hq
  · simp only [flFu, h0, cond_false]; exact st_in h.fu
  · simp only [flFu, flOff, h0, cond_false] at ho ⊢; exact st_off h.off ho
def fuS (n : Nat) (x : Int) (s : DS) : DS := ⟨s.L, s.Q, fuV (n : Int) x s.off s.fu, fuD (n : Int) x s.off s.fd, s.off⟩
theorem fu_eq {n : Nat} {s : DS} (hn : 0 < n) (x : Int) : fuE (n : Int) x s.off = armE x s.off ∧ armFu x s.off (rOf s.fd s.fu) = rOf (fuS n x s).fd (fuS n x s).fu := by
  have h0 : ((n : Int) == 0) = false := beq_eq_false_iff_ne.2 (by omega)
  unfold fuS fuV fuD fuE armE armFu
  simp only [h0, cond_false]
  refine ⟨trivial, ?_⟩
  cases decide (x < 0) with
  | true => simp
  | false => cases s.off <;> simp [rOf]
theorem fu_inv {n k : Nat} {s : DS} (h : DInv n k s) (hn : 0 < n) {x : Int} (hx : x ≤ 9223372036854775807) : DInv n (k + 1) (fuS n x s) := by
  have h0 : ((n : Int) == 0) = false := beq_eq_false_iff_ne.2 (by omega)
  refine ⟨h.L, h.len, h.Q, Nat.le_succ_of_le h.k, h.at', ?_, fun ho => ?_⟩
  · simp only [fuS, fuV, fuE, h0, cond_false]
    cases hd : decide (x < 0) with
    | true => exact h.fu
    | false =>
      have := of_decide_eq_false hd
      cases s.off with
      | true => exact h.fu
      | false => simp; omega
  · have ho : s.off = true := ho
    obtain ⟨h1, h2⟩ := h.off ho
    simp only [fuS, fuV, fuD, fuE, h0, cond_false, ho, cond_true, h1, h2]
    cases decide (x < 0) <;> simp
def crS (ks : List Int) (tn : Int) (s : DS) : DS := ⟨crD s.L s.Q ks tn, [], s.fu, false, false⟩
theorem cr_inv {n k : Nat} {s : DS} (h : DInv n k s) (hk : k ≤ 100000) (ks : List Int) (tn : Int) : DInv n (k + 1) (crS ks tn s) :=
  ⟨crQ_wid h.L (h.wq hk) (by rw [h.len]; exact h.at') _ (Nat.le_refl _), (crQ_len _ _ _ _ _).trans h.len, (fun q hq => by cases hq), Nat.zero_le _, (fun q hq => by cases hq), h.fu, (fun h => by cases h)⟩
def doB (d : DoD) : List UInt8 := bif d.sh then d.b.take 200 else sectO d.b
def stp (n : Nat) (d : DoD) (s : DS) : DS :=
  bif d.kind == 0 then wrS n d.at' (doB d) s else bif d.kind == 1 then flS n s else bif d.kind == 2 then s else bif d.kind == 3 then fuS n d.n s else crS d.ks d.n s
def DoOk (l : List DoD) : Prop := ∀ d ∈ l, d.n ≤ 9223372036854775807 ∧ d.b.length ≤ 9223372036854775807
theorem stp_inv {n k : Nat} {s : DS} (h : DInv n k s) (hn : 0 < n) (hk : k ≤ 100000) {d : DoD} (hd : d.n ≤ 9223372036854775807) : DInv n (k + 1) (stp n d s) := by
  unfold stp
  cases d.kind == 0
  · cases d.kind == 1
    · cases d.kind == 2
      · cases d.kind == 3
        · exact cr_inv h hk _ _
        · exact fu_inv h hn hd
      · exact h.mono
    · exact fl_inv h hn hk
  · exact wr_inv h hn _ _
def plS (n : Nat) (l : List DoD) (s : DS) : Nat → DS
  | 0 => s
  | k + 1 => stp n (l.getD k DoD.zero) (plS n l s k)
def new0 (n : Nat) : DS := ⟨List.replicate n sec0, [], 0, false, false⟩
theorem new0_inv (n : Nat) : DInv n 0 (new0 n) := ⟨(fun l hl => by rw [List.eq_of_mem_replicate hl]; rfl), List.length_replicate, (fun q hq => by cases hq), Nat.le_refl _, (fun q hq => by cases hq), ⟨Int.le_refl 0, (by show (0 : Int) ≤ _; decide)⟩, fun h => by cases h⟩
theorem doz (l : List DoD) (h : DoOk l) (k : Nat) : (l.getD k DoD.zero).n ≤ 9223372036854775807 ∧ (l.getD k DoD.zero).b.length ≤ 9223372036854775807 := by
  rw [List.getD_eq_getElem?_getD]
  cases hk : l[k]? with
  | none => exact ⟨by decide, by decide⟩
  | some d => exact h d (List.mem_of_getElem? hk)
theorem plS_inv {n : Nat} (hn : 0 < n) {l : List DoD} (hl : DoOk l) {s : DS} (h0 : DInv n 0 s) : ∀ k, k ≤ 100000 → DInv n k (plS n l s k)
  | 0, _ => h0
  | k + 1, hk => stp_inv (plS_inv hn hl h0 k (by omega)) hn (by omega) (doz l hl k).1
end Go.Proofs.Ytonomiljclemnaa
