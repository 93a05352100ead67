/- H25 H26 H27 H28 H29 H30 H31 H32 HRd H37 H38 H39 H63 H64 H66 H67. -/
import Derived.Test.YtonomiljclemnaaH24p
import Derived.Test.YtonomiljclemnaaF2p
import Derived.Test.YtonomiljclemnaaOpenp
import Derived.Test.YtonomiljclemnaaH14p
import Derived.Test.YtonomiljclemnaaH65p
set_option linter.unusedVariables false
set_option linter.unusedSimpArgs false
namespace Go.Proofs.Ytonomiljclemnaa
open Go.RowKit
end Go.Proofs.Ytonomiljclemnaa
set_option linter.unusedVariables false
set_option linter.unusedSimpArgs false
namespace Go.Proofs.Ytonomiljclemnaa
open Go.RowKit
end Go.Proofs.Ytonomiljclemnaa
set_option linter.unusedVariables false
set_option linter.unusedSimpArgs false
namespace Go.Proofs.Ytonomiljclemnaa
open Go.RowKit
def rdBad (i n : Int) : Bool := decide (i < 0) || decide (i ≥ n)
end Go.Proofs.Ytonomiljclemnaa
set_option linter.unusedVariables false
set_option linter.unusedSimpArgs false
namespace Go.Proofs.Ytonomiljclemnaa
open Go.RowKit
theorem crQ_wid {L : List (List UInt8)} {Q : List (Int × List UInt8)} {ks : List Int} {tn : Int} (hL : WidL L) (hQ : WidQ Q) (hA : AtQ L.length Q) : ∀ k, k ≤ Q.length → WidL (crQ L Q ks tn k)
  | 0, _ => hL
  | k + 1, hk => by
    intro l hl
    simp only [crQ] at hl
    rcases List.mem_or_eq_of_mem_set hl with h | h
    · exact crQ_wid hL hQ hA k (by omega) l h
    · have h1 : (Q.getD k (0, [])).2.length = 128 := WidQ.at hQ (k := (k : Int)) ⟨by omega, by omega⟩
      have h2 := AtQ.at hA (k := (k : Int)) ⟨by omega, by omega⟩
      rw [Int.toNat_natCast] at h2
      have h3 : ((crQ L Q ks tn k).getD (Q.getD k (0, [])).1.toNat []).length = 128 := WidL.at (crQ_wid hL hQ hA k (by omega)) (k := (Q.getD k (0, [])).1) ⟨h2.1, by rw [crQ_len]; exact h2.2⟩
      have h4 := kpI_in (Q.length : Int) (k : Int) tn ks
      have h5 : crN Q ks tn k ≤ 128 := by unfold crN; omega
      rw [h, List.length_append, List.length_take, List.length_drop, h1, h3]
      omega
end Go.Proofs.Ytonomiljclemnaa
set_option linter.unusedVariables false
set_option linter.unusedSimpArgs false
namespace Go.Proofs.Ytonomiljclemnaa
open Go.RowKit
end Go.Proofs.Ytonomiljclemnaa
set_option linter.unusedVariables false
set_option linter.unusedSimpArgs false
namespace Go.Proofs.Ytonomiljclemnaa
open Go.RowKit
end Go.Proofs.Ytonomiljclemnaa
set_option linter.unusedVariables false
set_option linter.unusedSimpArgs false
namespace Go.Proofs.Ytonomiljclemnaa
open Go.RowKit
structure DoD where
  kind : Int
  at' : Int
  n : Int
  b : List UInt8
  sh : Bool
  ks : List Int
def DoD.zero : DoD := ⟨0, 0, 0, [], false, []⟩
end Go.Proofs.Ytonomiljclemnaa
set_option linter.unusedVariables false
set_option linter.unusedSimpArgs false
namespace Go.Proofs.Ytonomiljclemnaa
open Go.RowKit
structure DS where
  L : List (List UInt8)
  Q : List (Int × List UInt8)
  fu : Int
  fd : Bool
  off : Bool
structure DInv (n k : Nat) (s : DS) : Prop where
  L : WidL s.L
  len : s.L.length = n
  Q : ∀ q ∈ s.Q, q.2.length = 128
  k : s.Q.length ≤ k
  at' : AtQ n s.Q
  fu : 0 ≤ s.fu ∧ s.fu ≤ 9223372036854775807
  off : s.off = true → s.fd = true ∧ s.fu = 0
theorem DInv.wq {n k : Nat} {s : DS} (h : DInv n k s) (hk : k ≤ 100000) : WidQ s.Q := ⟨h.Q, Nat.le_trans h.k hk⟩
theorem DInv.mono {n k : Nat} {s : DS} (h : DInv n k s) : DInv n (k + 1) s := ⟨h.L, h.len, h.Q, Nat.le_succ_of_le h.k, h.at', h.fu, h.off⟩
theorem st_in {off fd : Bool} {fu : Int} (h0 : 0 ≤ fu ∧ fu ≤ 9223372036854775807) : 0 ≤ stFu off fd fu ∧ stFu off fd fu ≤ 9223372036854775807 := by
  unfold stFu
  cases hc : (!off && (fd && !(fu == 0))) with
  | false => simpa using h0
  | true =>
    have h1 : fu ≠ 0 := by
      intro e; subst e; simp at hc
    rw [cond_true, IntWalk.i64_in _ (by omega)]
    omega
theorem st_off {off fd : Bool} {fu : Int} (h : off = true → fd = true ∧ fu = 0) (h1 : stOff off fd fu = true) : fd = true ∧ stFu off fd fu = 0 := by
  unfold stOff at h1
  unfold stFu
  cases off with
  | true => obtain ⟨rfl, rfl⟩ := h rfl; simp
  | false =>
    simp at h1
    obtain ⟨rfl, rfl⟩ := h1
    simp
theorem rdBad_wrong {n : Nat} (hn : 0 < n) (i : Int) : (wrongI (n : Int) i != 0) = rdBad i (n : Int) := by
  have : ((n : Int) == 0) = false := beq_eq_false_iff_ne.2 (by omega)
  unfold wrongI rdBad
  rw [this]
  cases (decide (i < 0) || decide (i ≥ (n : Int))) <;> simp
theorem wrB_eq {n : Nat} (hn : 0 < n) (i m : Int) : wrB (n : Int) i m = !(rdBad i (n : Int) || m != 128) := by
  unfold wrB
  have h := rdBad_wrong hn i
  cases hw : (wrongI (n : Int) i == 0)
  · have : (wrongI (n : Int) i != 0) = true := by simp [bne, hw]
    rw [this] at h
    rw [← h]; simp
  · have : (wrongI (n : Int) i != 0) = false := by simp [bne, hw]
    rw [this] at h
    rw [← h]
    simp [bne]
def wrS (n : Nat) (i : Int) (b : List UInt8) (s : DS) : DS := ⟨s.L, wrQ s.Q (n : Int) i b s.off s.fd s.fu, wrFu (n : Int) i (b.length : Int) s.off s.fd s.fu, s.fd, wrOff (n : Int) i (b.length : Int) s.off s.fd s.fu⟩
theorem wr_inv {n k : Nat} {s : DS} (h : DInv n k s) (hn : 0 < n) (i : Int) (b : List UInt8) : DInv n (k + 1) (wrS n i b s) := by
  unfold wrS
  have hB : wrB (n : Int) i (b.length : Int) = true → (0 ≤ i ∧ i.toNat < n) ∧ b.length = 128 := fun hb => by
    rw [wrB_eq hn] at hb
    simp [rdBad] at hb
    omega
  refine ⟨h.L, h.len, fun q hq => ?_, ?_, fun q hq => ?_, ?_, fun ho => ?_⟩
  · simp only [wrQ] at hq
    cases hc : (wrB (n : Int) i (b.length : Int) && !stOff s.off s.fd s.fu) with
    | false => rw [hc] at hq; exact h.Q q hq
    | true =>
      rw [hc] at hq
      rcases List.mem_append.1 hq with hq | hq
      · exact h.Q q hq
      · simp at hq; subst hq
        simp at hc
        exact (hB hc.1).2
  · simp only [wrQ]
    have := h.k
    cases (wrB (n : Int) i (b.length : Int) && !stOff s.off s.fd s.fu) <;> simp <;> omega
  · simp only [wrQ] at hq
    cases hc : (wrB (n : Int) i (b.length : Int) && !stOff s.off s.fd s.fu) with
    | false => rw [hc] at hq; exact h.at' q hq
    | true =>
      rw [hc] at hq
      rcases List.mem_append.1 hq with hq | hq
      · exact h.at' q hq
      · simp at hq; subst hq
        simp at hc
        exact (hB hc.1).1
  · simp only [wrFu]
    cases wrB (n : Int) i (b.length : Int)
    · exact h.fu
    · exact st_in h.fu
  · simp only [wrOff, wrFu] at ho ⊢
    cases hc : wrB (n : Int) i (b.length : Int) with
    | false => rw [hc] at ho; exact h.off ho
    | true => rw [hc] at ho; exact st_off h.off ho
def flS (n : Nat) (s : DS) : DS := ⟨flL s.L s.Q (flE (n : Int) s.off s.fd s.fu), flP s.Q (flE (n : Int) s.off s.fd s.fu), flFu (n : Int) s.off s.fd s.fu, s.fd, flOff (n : Int) s.off s.fd s.fu⟩
theorem fl_inv {n k : Nat} {s : DS} (h : DInv n k s) (hn : 0 < n) (hk : k ≤ 100000) : DInv n (k + 1) (flS n s) := by
  have h0 : ((n : Int) == 0) = false := beq_eq_false_iff_ne.2 (by omega)
  have hQ := h.wq hk
  have hw : WidL (flD s.L s.Q) := flQ_wid h.L hQ _ (Nat.le_refl _)
  unfold flS
  refine ⟨?_, ?_, fun q hq => ?_, ?_, fun q hq => ?_, ?_, fun ho => ?_⟩
  · simp only [flL]; cases (flE (n : Int) s.off s.fd s.fu == 0)
    · exact h.L
    · exact hw
  · simp only [flL]; cases (flE (n : Int) s.off s.fd s.fu == 0)
    · exact h.len
    · exact (flQ_len _ _ _).trans h.len
  · simp only [flP] at hq; cases hc : (flE (n : Int) s.off s.fd s.fu == 0) <;> rw [hc] at hq
    · exact h.Q q hq
    · cases hq
  · simp only [flP]; have := h.k; cases (flE (n : Int) s.off s.fd s.fu == 0) <;> simp <;> omega
  · simp only [flP] at hq; cases hc : (flE (n : Int) s.off s.fd s.fu == 0) <;> rw [hc] at hq
    · exact h.at' q hq
    · cases hq
  · simp only [flFu, h0, cond_false]; exact st_in h.fu
  · simp only [flFu, flOff, h0, cond_false] at ho ⊢; exact st_off h.off ho
def fuS (n : Nat) (x : Int) (s : DS) : DS := ⟨s.L, s.Q, fuV (n : Int) x s.off s.fu, fuD (n : Int) x s.off s.fd, s.off⟩
theorem fu_inv {n k : Nat} {s : DS} (h : DInv n k s) (hn : 0 < n) {x : Int} (hx : x ≤ 9223372036854775807) : DInv n (k + 1) (fuS n x s) := by
  have h0 : ((n : Int) == 0) = false := beq_eq_false_iff_ne.2 (by omega)
  refine ⟨h.L, h.len, h.Q, Nat.le_succ_of_le h.k, h.at', ?_, fun ho => ?_⟩
  · simp only [fuS, fuV, fuE, h0, cond_false]
    cases hd : decide (x < 0) with
    | true => exact h.fu
    | false =>
      have := of_decide_eq_false hd
      cases s.off with
      | true => exact h.fu
      | false => simp; omega
  · have ho : s.off = true := ho
    obtain ⟨h1, h2⟩ := h.off ho
    simp only [fuS, fuV, fuD, fuE, h0, cond_false, ho, cond_true, h1, h2]
    cases decide (x < 0) <;> simp
def crS (ks : List Int) (tn : Int) (s : DS) : DS := ⟨crD s.L s.Q ks tn, [], s.fu, false, false⟩
theorem cr_inv {n k : Nat} {s : DS} (h : DInv n k s) (hk : k ≤ 100000) (ks : List Int) (tn : Int) : DInv n (k + 1) (crS ks tn s) :=
  ⟨crQ_wid h.L (h.wq hk) (by rw [h.len]; exact h.at') _ (Nat.le_refl _), (crQ_len _ _ _ _ _).trans h.len, (fun q hq => by cases hq), Nat.zero_le _, (fun q hq => by cases hq), h.fu, (fun h => by cases h)⟩
def new0 (n : Nat) : DS := ⟨List.replicate n sec0, [], 0, false, false⟩
theorem new0_inv (n : Nat) : DInv n 0 (new0 n) := ⟨(fun l hl => by rw [List.eq_of_mem_replicate hl]; rfl), List.length_replicate, (fun q hq => by cases hq), Nat.le_refl _, (fun q hq => by cases hq), ⟨Int.le_refl 0, (by show (0 : Int) ≤ _; decide)⟩, fun h => by cases h⟩
end Go.Proofs.Ytonomiljclemnaa
set_option linter.unusedVariables false
set_option linter.unusedSimpArgs false
namespace Go.Proofs.Ytonomiljclemnaa
open Go.RowKit Go.ChangeShapes Go.WideShapes Go.ChangeAt
theorem args_us {w : World} {e : Env} {mem : Mem Td} (h : MemOk w (FootOf Id' w e mem) Id' w e mem) (hro : ∀ n ∈ mem, n.mu = false) {u : Value} {b : Td} (hb : Id'.holds b w u) (hlt : ∀ k, Id'.foot b w u k → k < w.heap.size) : MemOk w (FootOf Id' w (e ++ [u]) (mem ++ [⟨.us b, false⟩])) Id' w (e ++ [u]) (mem ++ [⟨.us b, false⟩]) := by
  have hget : ∀ (i : Nat) (v : Value) (n : En Td), (e ++ [u])[i]? = some v → (mem ++ [⟨.us b, false⟩])[i]? = some n → (e[i]? = some v ∧ mem[i]? = some n) ∨ (v = u ∧ n = ⟨.us b, false⟩) := fun i v n hv hn => by
    have hl := h.len
    rcases Nat.lt_or_ge i e.length with hi | hi
    · rw [List.getElem?_append_left hi] at hv
      rw [List.getElem?_append_left (by omega)] at hn
      exact .inl ⟨hv, hn⟩
    · rw [List.getElem?_append_right hi] at hv
      rw [List.getElem?_append_right (by omega)] at hn
      rw [hl] at hv
      cases hq : i - mem.length with
      | zero => rw [hq] at hv hn; simp at hv hn; exact .inr ⟨hv.symm, hn.symm⟩
      | succ q => rw [hq] at hv; simp at hv
  have hmu : ∀ (i : Nat) (v : Value) (n : En Td), (e ++ [u])[i]? = some v → (mem ++ [⟨.us b, false⟩])[i]? = some n → n.mu = false := fun i v n hv hn => by
    rcases hget i v n hv hn with ⟨_, h2⟩ | ⟨_, rfl⟩
    · exact hro n (List.mem_of_getElem? h2)
    · rfl
  refine ⟨by simp [h.len], fun i v n hv hn => ?_, fun i v n hv hn k hk => ?_, fun i v n hv hn hm => ?_, fun i j v x n m hv hn hm => ?_, Mod.refl _ w, fun i v n hv hn k hk => .inr (footO.2 ⟨i, v, n, hv, hn, hk⟩)⟩
  · rcases hget i v n hv hn with ⟨h1, h2⟩ | ⟨rfl, rfl⟩
    · exact (h.holds i v n h1 h2).mono (Grows.push e u)
    · exact hb
  · rcases hget i v n hv hn with ⟨h1, h2⟩ | ⟨rfl, rfl⟩
    · exact h.lt i v n h1 h2 k hk
    · exact hlt k hk
  · rw [hmu i v n hv hn] at hm; cases hm
  · rw [hmu i v n hv hn] at hm; cases hm
theorem rs_lt {w : World} {sz n : Nat} {u : Value} {vals : List Value} (h : Rs w sz u n vals) (hn : n ≠ 0) (hs : 0 < sz) {k : Nat} (hk : u.ownBlock = some k) : k < w.heap.size := by
  obtain ⟨hl, ao, cap, rfl, h2, h3, h4, h5⟩ := h
  cases ao with
  | none => cases hk
  | some a =>
    have hlt : 0 < vals.length := by rw [hl]; exact Nat.mul_pos (by omega) hs
    have := h5 a rfl 0 _ (List.getElem?_eq_getElem hlt)
    have hb := World.block_lt_of_cell? w _ this
    rw [add_block] at hb
    cases hk
    exact hb
section
variable {H : Type} {enc : TypeId × Value → H} {W : World}
end
end Go.Proofs.Ytonomiljclemnaa
set_option linter.unusedVariables false
set_option linter.unusedSimpArgs false
namespace Go.Proofs.Ytonomiljclemnaa
open Go.RowKit
def withI (x a b : Int) : Int := bif decide (x < a) then a else bif decide (x > b) then b else x
theorem withI_in (x : Int) {a b : Int} (h : a ≤ b) : a ≤ withI x a b ∧ withI x a b ≤ b := by
  unfold withI
  by_cases h1 : x < a
  · rw [decide_eq_true h1, cond_true]; omega
  · rw [decide_eq_false h1, cond_false]
    by_cases h2 : x > b
    · rw [decide_eq_true h2, cond_true]; omega
    · rw [decide_eq_false h2, cond_false]; omega
end Go.Proofs.Ytonomiljclemnaa
set_option linter.unusedVariables false
set_option linter.unusedSimpArgs false
namespace Go.Proofs.Ytonomiljclemnaa
open Go.RowKit
end Go.Proofs.Ytonomiljclemnaa
set_option linter.unusedVariables false
set_option linter.unusedSimpArgs false
namespace Go.Proofs.Ytonomiljclemnaa
open Go.RowKit
end Go.Proofs.Ytonomiljclemnaa
set_option linter.unusedVariables false
set_option linter.unusedSimpArgs false
namespace Go.Proofs.Ytonomiljclemnaa
open Go.RowKit
def svW (tl fl : Int) : WS := (WS.new.put tl 40).put fl 24
def svP (ep gn tl fl : Int) : Pc := pcI ep gn true true (svW tl fl).out
def svK (n i ep gn tl fl : Int) : Int := bif hwI n i != 0 then hwI n i else bif (svW tl fl).err != 0 then 2 else bif (okN (svP ep gn tl fl) : Int) != 0 then 2 else 0
def svX (s : DS) (i ep gn tl fl : Int) : Int := wrE (s.L.length : Int) (hpI i gn) ((okL (svP ep gn tl fl)).length : Int) s.off s.fd s.fu
def svT (s : DS) (i ep gn tl fl : Int) : DS := wrS s.L.length (hpI i gn) (okL (svP ep gn tl fl)) s
def svS (s : DS) (i ep gn tl fl : Int) : DS := bif svK (s.L.length : Int) i ep gn tl fl != 0 then s else bif svX s i ep gn tl fl != 0 then svT s i ep gn tl fl else flS s.L.length (svT s i ep gn tl fl)
def svE (s : DS) (i ep gn tl fl : Int) : Int := bif svK (s.L.length : Int) i ep gn tl fl != 0 then svK (s.L.length : Int) i ep gn tl fl else bif svX s i ep gn tl fl != 0 then svX s i ep gn tl fl else flE (s.L.length : Int) (svT s i ep gn tl fl).off (svT s i ep gn tl fl).fd (svT s i ep gn tl fl).fu
set_option maxRecDepth 100000 in
theorem save0_w0 (L : List (List UInt8)) (Q : List (Int × List UInt8)) (fu : Int) (fd off : Bool) (i ep gn tl fl : Int) (h0 : (hwI (L.length : Int) i != 0) = true) (h1 : 0 ≤ ep ∧ 0 ≤ gn) (h2 : 0 ≤ tl ∧ tl < 18446744073709551616) (h3 : 0 ≤ fl ∧ fl < 18446744073709551616) (h4 : Q.length + 1 ≤ 100000) (h5 : WidQ (svT (⟨L, Q, fu, fd, off⟩ : DS) i ep gn tl fl).Q) (h6 : AtQ L.length (svT (⟨L, Q, fu, fd, off⟩ : DS) i ep gn tl fl).Q) (h7 : (svS (⟨L, Q, fu, fd, off⟩ : DS) i ep gn tl fl) = (⟨L, Q, fu, fd, off⟩ : DS)) (h8 : svE (⟨L, Q, fu, fd, off⟩ : DS) i ep gn tl fl = hwI (L.length : Int) i) : ∃ qs, wayO Id' ([⟨.bx [.obj 1, .obj 2, .v (.int .i64 fu), .v (.bool fd), .v (.bool off)], true⟩, ⟨.us (.ext (.flat (.secs L))), true⟩, ⟨.us (.ext (.flat (.pens Q))), true⟩] : Mem Td).length [⟨.bx [.obj 1, .obj 3, .v (.int .i64 (svS (⟨L, Q, fu, fd, off⟩ : DS) i ep gn tl fl).fu), .v (.bool (svS (⟨L, Q, fu, fd, off⟩ : DS) i ep gn tl fl).fd), .v (.bool (svS (⟨L, Q, fu, fd, off⟩ : DS) i ep gn tl fl).off)], true⟩, ⟨.us (.ext (.flat (.secs (svS (⟨L, Q, fu, fd, off⟩ : DS) i ep gn tl fl).L))), true⟩, ⟨.dead, true⟩, ⟨.us (.ext (.flat (.pens (svS (⟨L, Q, fu, fd, off⟩ : DS) i ep gn tl fl).Q))), true⟩] (svV (.int .i64 (svE (⟨L, Q, fu, fd, off⟩ : DS) i ep gn tl fl))) ((runFn (⟨Try.prog, [(45, ctrV C_hwrong hardD), (F_new (hx := hardDk) : Nat × Fn2 Td), (F_put (hx := hardDk) : Nat × Fn2 Td), (F_done (hx := hardDk) : Nat × Fn2 Td), (50, ctrF Id' C_seal hardD), (51, ctrV C_hplace hardD), (15, ctrF Id' C_write hardD), (11, ctrF Id' C_flush hardD)], [], dkHo, Id'.one, 60⟩ : Sy Td) [] Try.f36 [.one (.ptr 0 0), .one (.v (.int .i64 i)), .one (.v (.int .u64 ep)), .agg [.v (.int .u64 gn), .v (.int .u64 tl), .v (.int .u64 fl)]] [⟨.bx [.obj 1, .obj 2, .v (.int .i64 fu), .v (.bool fd), .v (.bool off)], true⟩, ⟨.us (.ext (.flat (.secs L))), true⟩, ⟨.us (.ext (.flat (.pens Q))), true⟩]).al [true]) = some qs ∧ ∀ q ∈ qs, q :=
  ⟨[(hwI (↑L.length : Int) i != (0 : Int)) = true, Value.int IntKind.i64 fu = Value.int IntKind.i64 (svS (DS.mk L Q fu fd off) i ep gn tl fl).fu, Value.bool fd = Value.bool (svS (DS.mk L Q fu fd off) i ep gn tl fl).fd, Value.bool off = Value.bool (svS (DS.mk L Q fu fd off) i ep gn tl fl).off, Th.ext (Dk.flat (FL.secs L)) = Th.ext (Dk.flat (FL.secs (svS (DS.mk L Q fu fd off) i ep gn tl fl).1)), Th.ext (Dk.flat (FL.pens Q)) = Th.ext (Dk.flat (FL.pens (svS (DS.mk L Q fu fd off) i ep gn tl fl).2)), Value.int IntKind.i64 (hwI (↑L.length : Int) i) = Value.int IntKind.i64 (svE (DS.mk L Q fu fd off) i ep gn tl fl)], by kernel_rfl, (by refine mcons ?_ (mcons ?_ (mcons ?_ (mcons ?_ (mcons ?_ (mcons ?_ (mcons ?_ mnil)))))) <;> first | rfl | exact h0 | exact h1 | exact h2 | exact h3 | exact h4 | exact h5 | exact h6 | exact h7 | exact h8 | trivial | (rw [h7]; rfl) | (rw [h7]) | (rw [h8]; rfl) | (rw [h8]))⟩
set_option maxRecDepth 100000 in
theorem save1_w0 (L : List (List UInt8)) (Q : List (Int × List UInt8)) (fu : Int) (fd off : Bool) (i ep gn tl fl : Int) (h0 : (hwI (L.length : Int) i != 0) = false) (h1 : ((svW tl fl).err != 0) = true) (h2 : 0 ≤ ep ∧ 0 ≤ gn) (h3 : 0 ≤ tl ∧ tl < 18446744073709551616) (h4 : 0 ≤ fl ∧ fl < 18446744073709551616) (h5 : Q.length + 1 ≤ 100000) (h6 : WidQ (svT (⟨L, Q, fu, fd, off⟩ : DS) i ep gn tl fl).Q) (h7 : AtQ L.length (svT (⟨L, Q, fu, fd, off⟩ : DS) i ep gn tl fl).Q) (h8 : (svS (⟨L, Q, fu, fd, off⟩ : DS) i ep gn tl fl) = (⟨L, Q, fu, fd, off⟩ : DS)) (h9 : svE (⟨L, Q, fu, fd, off⟩ : DS) i ep gn tl fl = 2) : ∃ qs, wayO Id' ([⟨.bx [.obj 1, .obj 2, .v (.int .i64 fu), .v (.bool fd), .v (.bool off)], true⟩, ⟨.us (.ext (.flat (.secs L))), true⟩, ⟨.us (.ext (.flat (.pens Q))), true⟩] : Mem Td).length [⟨.bx [.obj 1, .obj 3, .v (.int .i64 (svS (⟨L, Q, fu, fd, off⟩ : DS) i ep gn tl fl).fu), .v (.bool (svS (⟨L, Q, fu, fd, off⟩ : DS) i ep gn tl fl).fd), .v (.bool (svS (⟨L, Q, fu, fd, off⟩ : DS) i ep gn tl fl).off)], true⟩, ⟨.us (.ext (.flat (.secs (svS (⟨L, Q, fu, fd, off⟩ : DS) i ep gn tl fl).L))), true⟩, ⟨.dead, true⟩, ⟨.us (.ext (.flat (.pens (svS (⟨L, Q, fu, fd, off⟩ : DS) i ep gn tl fl).Q))), true⟩] (svV (.int .i64 (svE (⟨L, Q, fu, fd, off⟩ : DS) i ep gn tl fl))) ((runFn (⟨Try.prog, [(45, ctrV C_hwrong hardD), (F_new (hx := hardDk) : Nat × Fn2 Td), (F_put (hx := hardDk) : Nat × Fn2 Td), (F_done (hx := hardDk) : Nat × Fn2 Td), (50, ctrF Id' C_seal hardD), (51, ctrV C_hplace hardD), (15, ctrF Id' C_write hardD), (11, ctrF Id' C_flush hardD)], [], dkHo, Id'.one, 60⟩ : Sy Td) [] Try.f36 [.one (.ptr 0 0), .one (.v (.int .i64 i)), .one (.v (.int .u64 ep)), .agg [.v (.int .u64 gn), .v (.int .u64 tl), .v (.int .u64 fl)]] [⟨.bx [.obj 1, .obj 2, .v (.int .i64 fu), .v (.bool fd), .v (.bool off)], true⟩, ⟨.us (.ext (.flat (.secs L))), true⟩, ⟨.us (.ext (.flat (.pens Q))), true⟩]).al [false, true]) = some qs ∧ ∀ q ∈ qs, q :=
  ⟨[(hwI (↑L.length : Int) i != (0 : Int)) = false, (0 : Int) ≤ fl ∧ fl < (18446744073709551616 : Int), (0 : Int) ≤ tl ∧ tl < (18446744073709551616 : Int), (((WS.new.put tl (↑40 : Int)).put fl (↑24 : Int)).err != (0 : Int)) = true, Value.int IntKind.i64 fu = Value.int IntKind.i64 (svS (DS.mk L Q fu fd off) i ep gn tl fl).fu, Value.bool fd = Value.bool (svS (DS.mk L Q fu fd off) i ep gn tl fl).fd, Value.bool off = Value.bool (svS (DS.mk L Q fu fd off) i ep gn tl fl).off, Th.ext (Dk.flat (FL.secs L)) = Th.ext (Dk.flat (FL.secs (svS (DS.mk L Q fu fd off) i ep gn tl fl).1)), Th.ext (Dk.flat (FL.pens Q)) = Th.ext (Dk.flat (FL.pens (svS (DS.mk L Q fu fd off) i ep gn tl fl).2)), Value.int IntKind.i64 (Int.ofNat 2) = Value.int IntKind.i64 (svE (DS.mk L Q fu fd off) i ep gn tl fl)], by kernel_rfl, (by refine mcons ?_ (mcons ?_ (mcons ?_ (mcons ?_ (mcons ?_ (mcons ?_ (mcons ?_ (mcons ?_ (mcons ?_ (mcons ?_ mnil))))))))) <;> first | rfl | exact h0 | exact h1 | exact h2 | exact h3 | exact h4 | exact h5 | exact h6 | exact h7 | exact h8 | exact h9 | trivial | (rw [h8]; rfl) | (rw [h8]) | (rw [h9]; rfl) | (rw [h9]))⟩
set_option maxRecDepth 100000 in
theorem save2_w0 (L : List (List UInt8)) (Q : List (Int × List UInt8)) (fu : Int) (fd off : Bool) (i ep gn tl fl : Int) (h0 : (hwI (L.length : Int) i != 0) = false) (h1 : ((svW tl fl).err != 0) = false) (h2 : ((okN (svP ep gn tl fl) : Int) != 0) = true) (h3 : 0 ≤ ep ∧ 0 ≤ gn) (h4 : 0 ≤ tl ∧ tl < 18446744073709551616) (h5 : 0 ≤ fl ∧ fl < 18446744073709551616) (h6 : Q.length + 1 ≤ 100000) (h7 : WidQ (svT (⟨L, Q, fu, fd, off⟩ : DS) i ep gn tl fl).Q) (h8 : AtQ L.length (svT (⟨L, Q, fu, fd, off⟩ : DS) i ep gn tl fl).Q) (h9 : (svS (⟨L, Q, fu, fd, off⟩ : DS) i ep gn tl fl) = (⟨L, Q, fu, fd, off⟩ : DS)) (h10 : svE (⟨L, Q, fu, fd, off⟩ : DS) i ep gn tl fl = 2) : ∃ qs, wayO Id' ([⟨.bx [.obj 1, .obj 2, .v (.int .i64 fu), .v (.bool fd), .v (.bool off)], true⟩, ⟨.us (.ext (.flat (.secs L))), true⟩, ⟨.us (.ext (.flat (.pens Q))), true⟩] : Mem Td).length [⟨.bx [.obj 1, .obj 3, .v (.int .i64 (svS (⟨L, Q, fu, fd, off⟩ : DS) i ep gn tl fl).fu), .v (.bool (svS (⟨L, Q, fu, fd, off⟩ : DS) i ep gn tl fl).fd), .v (.bool (svS (⟨L, Q, fu, fd, off⟩ : DS) i ep gn tl fl).off)], true⟩, ⟨.us (.ext (.flat (.secs (svS (⟨L, Q, fu, fd, off⟩ : DS) i ep gn tl fl).L))), true⟩, ⟨.dead, true⟩, ⟨.us (.ext (.flat (.pens (svS (⟨L, Q, fu, fd, off⟩ : DS) i ep gn tl fl).Q))), true⟩] (svV (.int .i64 (svE (⟨L, Q, fu, fd, off⟩ : DS) i ep gn tl fl))) ((runFn (⟨Try.prog, [(45, ctrV C_hwrong hardD), (F_new (hx := hardDk) : Nat × Fn2 Td), (F_put (hx := hardDk) : Nat × Fn2 Td), (F_done (hx := hardDk) : Nat × Fn2 Td), (50, ctrF Id' C_seal hardD), (51, ctrV C_hplace hardD), (15, ctrF Id' C_write hardD), (11, ctrF Id' C_flush hardD)], [], dkHo, Id'.one, 60⟩ : Sy Td) [] Try.f36 [.one (.ptr 0 0), .one (.v (.int .i64 i)), .one (.v (.int .u64 ep)), .agg [.v (.int .u64 gn), .v (.int .u64 tl), .v (.int .u64 fl)]] [⟨.bx [.obj 1, .obj 2, .v (.int .i64 fu), .v (.bool fd), .v (.bool off)], true⟩, ⟨.us (.ext (.flat (.secs L))), true⟩, ⟨.us (.ext (.flat (.pens Q))), true⟩]).al [false, false, true]) = some qs ∧ ∀ q ∈ qs, q :=
  ⟨[(hwI (↑L.length : Int) i != (0 : Int)) = false, (0 : Int) ≤ fl ∧ fl < (18446744073709551616 : Int), (0 : Int) ≤ tl ∧ tl < (18446744073709551616 : Int), (((WS.new.put tl (↑40 : Int)).put fl (↑24 : Int)).err != (0 : Int)) = false, (0 : Int) ≤ ep ∧ (0 : Int) ≤ gn, (En.mk (Ob.us (Th.own ((WS.new.put tl (↑40 : Int)).put fl (↑24 : Int)).out)) true : En Td) = En.mk (Ob.us (Th.own ((WS.new.put tl (↑40 : Int)).put fl (↑24 : Int)).out)) true, ((↑(okN (pcI ep gn true true ((WS.new.put tl (↑40 : Int)).put fl (↑24 : Int)).out)) : Int) != (0 : Int)) = true, Value.int IntKind.i64 fu = Value.int IntKind.i64 (svS (DS.mk L Q fu fd off) i ep gn tl fl).fu, Value.bool fd = Value.bool (svS (DS.mk L Q fu fd off) i ep gn tl fl).fd, Value.bool off = Value.bool (svS (DS.mk L Q fu fd off) i ep gn tl fl).off, Th.ext (Dk.flat (FL.secs L)) = Th.ext (Dk.flat (FL.secs (svS (DS.mk L Q fu fd off) i ep gn tl fl).1)), Th.ext (Dk.flat (FL.pens Q)) = Th.ext (Dk.flat (FL.pens (svS (DS.mk L Q fu fd off) i ep gn tl fl).2)), Value.int IntKind.i64 (Int.ofNat 2) = Value.int IntKind.i64 (svE (DS.mk L Q fu fd off) i ep gn tl fl)], by kernel_rfl, (by refine mcons ?_ (mcons ?_ (mcons ?_ (mcons ?_ (mcons ?_ (mcons ?_ (mcons ?_ (mcons ?_ (mcons ?_ (mcons ?_ (mcons ?_ (mcons ?_ (mcons ?_ mnil)))))))))))) <;> first | rfl | exact h0 | exact h1 | exact h2 | exact h3 | exact h4 | exact h5 | exact h6 | exact h7 | exact h8 | exact h9 | exact h10 | trivial | (rw [h9]; rfl) | (rw [h9]) | (rw [h10]; rfl) | (rw [h10]))⟩
set_option maxRecDepth 100000 in
theorem save3_w0 (L : List (List UInt8)) (Q : List (Int × List UInt8)) (fu : Int) (fd off : Bool) (i ep gn tl fl : Int) (h0 : (hwI (L.length : Int) i != 0) = false) (h1 : ((svW tl fl).err != 0) = false) (h2 : ((okN (svP ep gn tl fl) : Int) != 0) = false) (h3 : (svX (⟨L, Q, fu, fd, off⟩ : DS) i ep gn tl fl != 0) = true) (h4 : 0 ≤ ep ∧ 0 ≤ gn) (h5 : 0 ≤ tl ∧ tl < 18446744073709551616) (h6 : 0 ≤ fl ∧ fl < 18446744073709551616) (h7 : Q.length + 1 ≤ 100000) (h8 : WidQ (svT (⟨L, Q, fu, fd, off⟩ : DS) i ep gn tl fl).Q) (h9 : AtQ L.length (svT (⟨L, Q, fu, fd, off⟩ : DS) i ep gn tl fl).Q) (h10 : (svS (⟨L, Q, fu, fd, off⟩ : DS) i ep gn tl fl) = (svT (⟨L, Q, fu, fd, off⟩ : DS) i ep gn tl fl)) (h11 : svE (⟨L, Q, fu, fd, off⟩ : DS) i ep gn tl fl = svX (⟨L, Q, fu, fd, off⟩ : DS) i ep gn tl fl) : ∃ qs, wayO Id' ([⟨.bx [.obj 1, .obj 2, .v (.int .i64 fu), .v (.bool fd), .v (.bool off)], true⟩, ⟨.us (.ext (.flat (.secs L))), true⟩, ⟨.us (.ext (.flat (.pens Q))), true⟩] : Mem Td).length [⟨.bx [.obj 1, .obj 3, .v (.int .i64 (svS (⟨L, Q, fu, fd, off⟩ : DS) i ep gn tl fl).fu), .v (.bool (svS (⟨L, Q, fu, fd, off⟩ : DS) i ep gn tl fl).fd), .v (.bool (svS (⟨L, Q, fu, fd, off⟩ : DS) i ep gn tl fl).off)], true⟩, ⟨.us (.ext (.flat (.secs (svS (⟨L, Q, fu, fd, off⟩ : DS) i ep gn tl fl).L))), true⟩, ⟨.dead, true⟩, ⟨.us (.ext (.flat (.pens (svS (⟨L, Q, fu, fd, off⟩ : DS) i ep gn tl fl).Q))), true⟩] (svV (.int .i64 (svE (⟨L, Q, fu, fd, off⟩ : DS) i ep gn tl fl))) ((runFn (⟨Try.prog, [(45, ctrV C_hwrong hardD), (F_new (hx := hardDk) : Nat × Fn2 Td), (F_put (hx := hardDk) : Nat × Fn2 Td), (F_done (hx := hardDk) : Nat × Fn2 Td), (50, ctrF Id' C_seal hardD), (51, ctrV C_hplace hardD), (15, ctrF Id' C_write hardD), (11, ctrF Id' C_flush hardD)], [], dkHo, Id'.one, 60⟩ : Sy Td) [] Try.f36 [.one (.ptr 0 0), .one (.v (.int .i64 i)), .one (.v (.int .u64 ep)), .agg [.v (.int .u64 gn), .v (.int .u64 tl), .v (.int .u64 fl)]] [⟨.bx [.obj 1, .obj 2, .v (.int .i64 fu), .v (.bool fd), .v (.bool off)], true⟩, ⟨.us (.ext (.flat (.secs L))), true⟩, ⟨.us (.ext (.flat (.pens Q))), true⟩]).al [false, false, false, true]) = some qs ∧ ∀ q ∈ qs, q :=
  ⟨[(hwI (↑L.length : Int) i != (0 : Int)) = false, (0 : Int) ≤ fl ∧ fl < (18446744073709551616 : Int), (0 : Int) ≤ tl ∧ tl < (18446744073709551616 : Int), (((WS.new.put tl (↑40 : Int)).put fl (↑24 : Int)).err != (0 : Int)) = false, (0 : Int) ≤ ep ∧ (0 : Int) ≤ gn, (En.mk (Ob.us (Th.own ((WS.new.put tl (↑40 : Int)).put fl (↑24 : Int)).out)) true : En Td) = En.mk (Ob.us (Th.own ((WS.new.put tl (↑40 : Int)).put fl (↑24 : Int)).out)) true, ((↑(okN (pcI ep gn true true ((WS.new.put tl (↑40 : Int)).put fl (↑24 : Int)).out)) : Int) != (0 : Int)) = false, Q.length + (1 : Nat) ≤ (100000 : Nat), (En.mk (Ob.us (Th.own (okL (pcI ep gn true true ((WS.new.put tl (↑40 : Int)).put fl (↑24 : Int)).out)))) true : En Td) = En.mk (Ob.us (Th.own (okL (pcI ep gn true true ((WS.new.put tl (↑40 : Int)).put fl (↑24 : Int)).out)))) true, (wrE (↑L.length : Int) (hpI i gn) (↑(okL (pcI ep gn true true ((WS.new.put tl (↑40 : Int)).put fl (↑24 : Int)).out)).length : Int) off fd fu != (0 : Int)) = true, Value.int IntKind.i64 (wrFu (↑L.length : Int) (hpI i gn) (↑(okL (pcI ep gn true true ((WS.new.put tl (↑40 : Int)).put fl (↑24 : Int)).out)).length : Int) off fd fu) = Value.int IntKind.i64 (svS (DS.mk L Q fu fd off) i ep gn tl fl).fu, Value.bool fd = Value.bool (svS (DS.mk L Q fu fd off) i ep gn tl fl).fd, Value.bool (wrOff (↑L.length : Int) (hpI i gn) (↑(okL (pcI ep gn true true ((WS.new.put tl (↑40 : Int)).put fl (↑24 : Int)).out)).length : Int) off fd fu) = Value.bool (svS (DS.mk L Q fu fd off) i ep gn tl fl).off, Th.ext (Dk.flat (FL.secs L)) = Th.ext (Dk.flat (FL.secs (svS (DS.mk L Q fu fd off) i ep gn tl fl).1)), Th.ext (Dk.flat (FL.pens (wrQ Q (↑L.length : Int) (hpI i gn) (okL (pcI ep gn true true ((WS.new.put tl (↑40 : Int)).put fl (↑24 : Int)).out)) off fd fu))) = Th.ext (Dk.flat (FL.pens (svS (DS.mk L Q fu fd off) i ep gn tl fl).2)), Value.int IntKind.i64 (wrE (↑L.length : Int) (hpI i gn) (↑(okL (pcI ep gn true true ((WS.new.put tl (↑40 : Int)).put fl (↑24 : Int)).out)).length : Int) off fd fu) = Value.int IntKind.i64 (svE (DS.mk L Q fu fd off) i ep gn tl fl)], by kernel_rfl, (by refine mcons ?_ (mcons ?_ (mcons ?_ (mcons ?_ (mcons ?_ (mcons ?_ (mcons ?_ (mcons ?_ (mcons ?_ (mcons ?_ (mcons ?_ (mcons ?_ (mcons ?_ (mcons ?_ (mcons ?_ (mcons ?_ mnil))))))))))))))) <;> first | rfl | exact h0 | exact h1 | exact h2 | exact h3 | exact h4 | exact h5 | exact h6 | exact h7 | exact h8 | exact h9 | exact h10 | exact h11 | trivial | (rw [h10]; rfl) | (rw [h10]) | (rw [h11]; rfl) | (rw [h11]))⟩
set_option maxRecDepth 100000 in
theorem save4_w0 (L : List (List UInt8)) (Q : List (Int × List UInt8)) (fu : Int) (fd off : Bool) (i ep gn tl fl : Int) (h0 : (hwI (L.length : Int) i != 0) = false) (h1 : ((svW tl fl).err != 0) = false) (h2 : ((okN (svP ep gn tl fl) : Int) != 0) = false) (h3 : (svX (⟨L, Q, fu, fd, off⟩ : DS) i ep gn tl fl != 0) = false) (h4 : 0 ≤ ep ∧ 0 ≤ gn) (h5 : 0 ≤ tl ∧ tl < 18446744073709551616) (h6 : 0 ≤ fl ∧ fl < 18446744073709551616) (h7 : Q.length + 1 ≤ 100000) (h8 : WidQ (svT (⟨L, Q, fu, fd, off⟩ : DS) i ep gn tl fl).Q) (h9 : AtQ L.length (svT (⟨L, Q, fu, fd, off⟩ : DS) i ep gn tl fl).Q) (h10 : (svS (⟨L, Q, fu, fd, off⟩ : DS) i ep gn tl fl) = (flS L.length (svT (⟨L, Q, fu, fd, off⟩ : DS) i ep gn tl fl))) (h11 : svE (⟨L, Q, fu, fd, off⟩ : DS) i ep gn tl fl = flE (L.length : Int) (svT (⟨L, Q, fu, fd, off⟩ : DS) i ep gn tl fl).off (svT (⟨L, Q, fu, fd, off⟩ : DS) i ep gn tl fl).fd (svT (⟨L, Q, fu, fd, off⟩ : DS) i ep gn tl fl).fu) : ∃ qs, wayO Id' ([⟨.bx [.obj 1, .obj 2, .v (.int .i64 fu), .v (.bool fd), .v (.bool off)], true⟩, ⟨.us (.ext (.flat (.secs L))), true⟩, ⟨.us (.ext (.flat (.pens Q))), true⟩] : Mem Td).length [⟨.bx [.obj 1, .obj 3, .v (.int .i64 (svS (⟨L, Q, fu, fd, off⟩ : DS) i ep gn tl fl).fu), .v (.bool (svS (⟨L, Q, fu, fd, off⟩ : DS) i ep gn tl fl).fd), .v (.bool (svS (⟨L, Q, fu, fd, off⟩ : DS) i ep gn tl fl).off)], true⟩, ⟨.us (.ext (.flat (.secs (svS (⟨L, Q, fu, fd, off⟩ : DS) i ep gn tl fl).L))), true⟩, ⟨.dead, true⟩, ⟨.us (.ext (.flat (.pens (svS (⟨L, Q, fu, fd, off⟩ : DS) i ep gn tl fl).Q))), true⟩] (svV (.int .i64 (svE (⟨L, Q, fu, fd, off⟩ : DS) i ep gn tl fl))) ((runFn (⟨Try.prog, [(45, ctrV C_hwrong hardD), (F_new (hx := hardDk) : Nat × Fn2 Td), (F_put (hx := hardDk) : Nat × Fn2 Td), (F_done (hx := hardDk) : Nat × Fn2 Td), (50, ctrF Id' C_seal hardD), (51, ctrV C_hplace hardD), (15, ctrF Id' C_write hardD), (11, ctrF Id' C_flush hardD)], [], dkHo, Id'.one, 60⟩ : Sy Td) [] Try.f36 [.one (.ptr 0 0), .one (.v (.int .i64 i)), .one (.v (.int .u64 ep)), .agg [.v (.int .u64 gn), .v (.int .u64 tl), .v (.int .u64 fl)]] [⟨.bx [.obj 1, .obj 2, .v (.int .i64 fu), .v (.bool fd), .v (.bool off)], true⟩, ⟨.us (.ext (.flat (.secs L))), true⟩, ⟨.us (.ext (.flat (.pens Q))), true⟩]).al [false, false, false, false]) = some qs ∧ ∀ q ∈ qs, q :=
  ⟨[(hwI (↑L.length : Int) i != (0 : Int)) = false, (0 : Int) ≤ fl ∧ fl < (18446744073709551616 : Int), (0 : Int) ≤ tl ∧ tl < (18446744073709551616 : Int), (((WS.new.put tl (↑40 : Int)).put fl (↑24 : Int)).err != (0 : Int)) = false, (0 : Int) ≤ ep ∧ (0 : Int) ≤ gn, (En.mk (Ob.us (Th.own ((WS.new.put tl (↑40 : Int)).put fl (↑24 : Int)).out)) true : En Td) = En.mk (Ob.us (Th.own ((WS.new.put tl (↑40 : Int)).put fl (↑24 : Int)).out)) true, ((↑(okN (pcI ep gn true true ((WS.new.put tl (↑40 : Int)).put fl (↑24 : Int)).out)) : Int) != (0 : Int)) = false, Q.length + (1 : Nat) ≤ (100000 : Nat), (En.mk (Ob.us (Th.own (okL (pcI ep gn true true ((WS.new.put tl (↑40 : Int)).put fl (↑24 : Int)).out)))) true : En Td) = En.mk (Ob.us (Th.own (okL (pcI ep gn true true ((WS.new.put tl (↑40 : Int)).put fl (↑24 : Int)).out)))) true, (wrE (↑L.length : Int) (hpI i gn) (↑(okL (pcI ep gn true true ((WS.new.put tl (↑40 : Int)).put fl (↑24 : Int)).out)).length : Int) off fd fu != (0 : Int)) = false, (∀ (q : Int × List UInt8), q ∈ wrQ Q (↑L.length : Int) (hpI i gn) (okL (pcI ep gn true true ((WS.new.put tl (↑40 : Int)).put fl (↑24 : Int)).out)) off fd fu → q.snd.length = (128 : Nat)) ∧ (wrQ Q (↑L.length : Int) (hpI i gn) (okL (pcI ep gn true true ((WS.new.put tl (↑40 : Int)).put fl (↑24 : Int)).out)) off fd fu).length ≤ (100000 : Nat), AtQ L.length (wrQ Q (↑L.length : Int) (hpI i gn) (okL (pcI ep gn true true ((WS.new.put tl (↑40 : Int)).put fl (↑24 : Int)).out)) off fd fu), Value.int IntKind.i64 (flFu (↑L.length : Int) (wrOff (↑L.length : Int) (hpI i gn) (↑(okL (pcI ep gn true true ((WS.new.put tl (↑40 : Int)).put fl (↑24 : Int)).out)).length : Int) off fd fu) fd (wrFu (↑L.length : Int) (hpI i gn) (↑(okL (pcI ep gn true true ((WS.new.put tl (↑40 : Int)).put fl (↑24 : Int)).out)).length : Int) off fd fu)) = Value.int IntKind.i64 (svS (DS.mk L Q fu fd off) i ep gn tl fl).fu, Value.bool fd = Value.bool (svS (DS.mk L Q fu fd off) i ep gn tl fl).fd, Value.bool (flOff (↑L.length : Int) (wrOff (↑L.length : Int) (hpI i gn) (↑(okL (pcI ep gn true true ((WS.new.put tl (↑40 : Int)).put fl (↑24 : Int)).out)).length : Int) off fd fu) fd (wrFu (↑L.length : Int) (hpI i gn) (↑(okL (pcI ep gn true true ((WS.new.put tl (↑40 : Int)).put fl (↑24 : Int)).out)).length : Int) off fd fu)) = Value.bool (svS (DS.mk L Q fu fd off) i ep gn tl fl).off, Th.ext (Dk.flat (FL.secs (flL L (wrQ Q (↑L.length : Int) (hpI i gn) (okL (pcI ep gn true true ((WS.new.put tl (↑40 : Int)).put fl (↑24 : Int)).out)) off fd fu) (flE (↑L.length : Int) (wrOff (↑L.length : Int) (hpI i gn) (↑(okL (pcI ep gn true true ((WS.new.put tl (↑40 : Int)).put fl (↑24 : Int)).out)).length : Int) off fd fu) fd (wrFu (↑L.length : Int) (hpI i gn) (↑(okL (pcI ep gn true true ((WS.new.put tl (↑40 : Int)).put fl (↑24 : Int)).out)).length : Int) off fd fu))))) = Th.ext (Dk.flat (FL.secs (svS (DS.mk L Q fu fd off) i ep gn tl fl).1)), Th.ext (Dk.flat (FL.pens (flP (wrQ Q (↑L.length : Int) (hpI i gn) (okL (pcI ep gn true true ((WS.new.put tl (↑40 : Int)).put fl (↑24 : Int)).out)) off fd fu) (flE (↑L.length : Int) (wrOff (↑L.length : Int) (hpI i gn) (↑(okL (pcI ep gn true true ((WS.new.put tl (↑40 : Int)).put fl (↑24 : Int)).out)).length : Int) off fd fu) fd (wrFu (↑L.length : Int) (hpI i gn) (↑(okL (pcI ep gn true true ((WS.new.put tl (↑40 : Int)).put fl (↑24 : Int)).out)).length : Int) off fd fu))))) = Th.ext (Dk.flat (FL.pens (svS (DS.mk L Q fu fd off) i ep gn tl fl).2)), Value.int IntKind.i64 (flE (↑L.length : Int) (wrOff (↑L.length : Int) (hpI i gn) (↑(okL (pcI ep gn true true ((WS.new.put tl (↑40 : Int)).put fl (↑24 : Int)).out)).length : Int) off fd fu) fd (wrFu (↑L.length : Int) (hpI i gn) (↑(okL (pcI ep gn true true ((WS.new.put tl (↑40 : Int)).put fl (↑24 : Int)).out)).length : Int) off fd fu)) = Value.int IntKind.i64 (svE (DS.mk L Q fu fd off) i ep gn tl fl)], by kernel_rfl, (by refine mcons ?_ (mcons ?_ (mcons ?_ (mcons ?_ (mcons ?_ (mcons ?_ (mcons ?_ (mcons ?_ (mcons ?_ (mcons ?_ (mcons ?_ (mcons ?_ (mcons ?_ (mcons ?_ (mcons ?_ (mcons ?_ (mcons ?_ (mcons ?_ mnil))))))))))))))))) <;> first | rfl | exact h0 | exact h1 | exact h2 | exact h3 | exact h4 | exact h5 | exact h6 | exact h7 | exact h8 | exact h9 | exact h10 | exact h11 | trivial | (rw [h10]; rfl) | (rw [h10]) | (rw [h11]; rfl) | (rw [h11]))⟩
end Go.Proofs.Ytonomiljclemnaa
set_option linter.unusedVariables false
set_option linter.unusedSimpArgs false
namespace Go.Proofs.Ytonomiljclemnaa
open Go.RowKit
def C_save : Ctr Td := fun us sub => match us, sub with
  | [.one (.ptr 0 0), .one (.v (.int .i64 i)), .one (.v (.int .u64 ep)), .agg [.v (.int .u64 gn), .v (.int .u64 tl), .v (.int .u64 fl)]], [⟨.bx [.obj 1, .obj 2, .v (.int .i64 fu), .v (.bool fd), .v (.bool off)], true⟩, ⟨.us (.ext (.flat (.secs L))), true⟩, ⟨.us (.ext (.flat (.pens Q))), true⟩] => some ([0 ≤ ep ∧ 0 ≤ gn, 0 ≤ tl ∧ tl < 18446744073709551616, 0 ≤ fl ∧ fl < 18446744073709551616, Q.length + 1 ≤ 100000, WidQ (svT (⟨L, Q, fu, fd, off⟩ : DS) i ep gn tl fl).Q, AtQ L.length (svT (⟨L, Q, fu, fd, off⟩ : DS) i ep gn tl fl).Q], svV (.int .i64 (svE (⟨L, Q, fu, fd, off⟩ : DS) i ep gn tl fl)), [⟨.bx [.obj 1, .obj 3, .v (.int .i64 (svS (⟨L, Q, fu, fd, off⟩ : DS) i ep gn tl fl).fu), .v (.bool (svS (⟨L, Q, fu, fd, off⟩ : DS) i ep gn tl fl).fd), .v (.bool (svS (⟨L, Q, fu, fd, off⟩ : DS) i ep gn tl fl).off)], true⟩, ⟨.us (.ext (.flat (.secs (svS (⟨L, Q, fu, fd, off⟩ : DS) i ep gn tl fl).L))), true⟩, ⟨.dead, true⟩, ⟨.us (.ext (.flat (.pens (svS (⟨L, Q, fu, fd, off⟩ : DS) i ep gn tl fl).Q))), true⟩])
  | _, _ => none
set_option maxHeartbeats 2000000 in
set_option maxRecDepth 100000 in
theorem C_save_ok : CtrOk Try.prog Id' 36 C_save := by
  intro us sub ps x sm h hp w e vs hM ha
  unfold C_save at h
  split at h
  · rename_i i ep gn tl fl fu fd off L Q
    simp only [Option.some.injEq, Prod.mk.injEq] at h
    obtain ⟨rfl, rfl, rfl⟩ := h
    have a0 : 0 ≤ ep ∧ 0 ≤ gn := hp _ (by simp)
    have a1 : 0 ≤ tl ∧ tl < 18446744073709551616 := hp _ (by simp)
    have a2 : 0 ≤ fl ∧ fl < 18446744073709551616 := hp _ (by simp)
    have a3 : Q.length + 1 ≤ 100000 := hp _ (by simp)
    have a4 : WidQ (svT (⟨L, Q, fu, fd, off⟩ : DS) i ep gn tl fl).Q := hp _ (by simp)
    have a5 : AtQ L.length (svT (⟨L, Q, fu, fd, off⟩ : DS) i ep gn tl fl).Q := hp _ (by simp)
    cases h0 : (hwI (L.length : Int) i != 0) with
    | true =>
      have hk : svK (L.length : Int) i ep gn tl fl = hwI (L.length : Int) i := by unfold svK; rw [h0]; rfl
      have hk1 : (svK (L.length : Int) i ep gn tl fl != 0) = true := by rw [hk]; exact h0
      have e1 : (svS (⟨L, Q, fu, fd, off⟩ : DS) i ep gn tl fl) = (⟨L, Q, fu, fd, off⟩ : DS) := by show (bif (svK (L.length : Int) i ep gn tl fl != 0) then _ else _) = _; rw [hk1]; rfl
      have e2 : svE (⟨L, Q, fu, fd, off⟩ : DS) i ep gn tl fl = hwI (L.length : Int) i := by show (bif (svK (L.length : Int) i ep gn tl fl != 0) then _ else _) = _; rw [hk1]; exact hk
      exact ctr_way (I := Id') (fun (W0 : World) (G : Nat → Prop) => SyOk.mk2 Try.mixed dkHo_ok (FnsR.cons (R_hwrong) (FnsR.cons (F_new_ok (J := dkI) (hx := hardDk)) (FnsR.cons (F_put_ok (J := dkI) (hx := hardDk)) (FnsR.cons (F_done_ok (J := dkI) (hx := hardDk)) (FnsR.cons (R_seal) (FnsR.cons (R_hplace) (FnsR.cons (R_write) (FnsR.cons (R_flush) (FnsR.nil))))))))) EqsOk.nil) rfl Try.func36 (by kernel_rfl) (fun _ _ => LpsOk.nil _) (cs := [true]) (by kernel_rfl) (save0_w0 L Q fu fd off i ep gn tl fl h0 a0 a1 a2 a3 a4 a5 e1 e2) w e vs hM ha
    | false =>
      cases h1 : ((svW tl fl).err != 0) with
      | true =>
        have hk : svK (L.length : Int) i ep gn tl fl = 2 := by unfold svK; rw [h0, cond_false, h1]; rfl
        have hk1 : (svK (L.length : Int) i ep gn tl fl != 0) = true := by rw [hk]; rfl
        have e1 : (svS (⟨L, Q, fu, fd, off⟩ : DS) i ep gn tl fl) = (⟨L, Q, fu, fd, off⟩ : DS) := by show (bif (svK (L.length : Int) i ep gn tl fl != 0) then _ else _) = _; rw [hk1]; rfl
        have e2 : svE (⟨L, Q, fu, fd, off⟩ : DS) i ep gn tl fl = 2 := by show (bif (svK (L.length : Int) i ep gn tl fl != 0) then _ else _) = _; rw [hk1]; exact hk
        exact ctr_way (I := Id') (fun (W0 : World) (G : Nat → Prop) => SyOk.mk2 Try.mixed dkHo_ok (FnsR.cons (R_hwrong) (FnsR.cons (F_new_ok (J := dkI) (hx := hardDk)) (FnsR.cons (F_put_ok (J := dkI) (hx := hardDk)) (FnsR.cons (F_done_ok (J := dkI) (hx := hardDk)) (FnsR.cons (R_seal) (FnsR.cons (R_hplace) (FnsR.cons (R_write) (FnsR.cons (R_flush) (FnsR.nil))))))))) EqsOk.nil) rfl Try.func36 (by kernel_rfl) (fun _ _ => LpsOk.nil _) (cs := [false, true]) (by kernel_rfl) (save1_w0 L Q fu fd off i ep gn tl fl h0 h1 a0 a1 a2 a3 a4 a5 e1 e2) w e vs hM ha
      | false =>
        cases h2 : ((okN (svP ep gn tl fl) : Int) != 0) with
        | true =>
          have hk : svK (L.length : Int) i ep gn tl fl = 2 := by unfold svK; rw [h0, cond_false, h1, cond_false, h2]; rfl
          have hk1 : (svK (L.length : Int) i ep gn tl fl != 0) = true := by rw [hk]; rfl
          have e1 : (svS (⟨L, Q, fu, fd, off⟩ : DS) i ep gn tl fl) = (⟨L, Q, fu, fd, off⟩ : DS) := by show (bif (svK (L.length : Int) i ep gn tl fl != 0) then _ else _) = _; rw [hk1]; rfl
          have e2 : svE (⟨L, Q, fu, fd, off⟩ : DS) i ep gn tl fl = 2 := by show (bif (svK (L.length : Int) i ep gn tl fl != 0) then _ else _) = _; rw [hk1]; exact hk
          exact ctr_way (I := Id') (fun (W0 : World) (G : Nat → Prop) => SyOk.mk2 Try.mixed dkHo_ok (FnsR.cons (R_hwrong) (FnsR.cons (F_new_ok (J := dkI) (hx := hardDk)) (FnsR.cons (F_put_ok (J := dkI) (hx := hardDk)) (FnsR.cons (F_done_ok (J := dkI) (hx := hardDk)) (FnsR.cons (R_seal) (FnsR.cons (R_hplace) (FnsR.cons (R_write) (FnsR.cons (R_flush) (FnsR.nil))))))))) EqsOk.nil) rfl Try.func36 (by kernel_rfl) (fun _ _ => LpsOk.nil _) (cs := [false, false, true]) (by kernel_rfl) (save2_w0 L Q fu fd off i ep gn tl fl h0 h1 h2 a0 a1 a2 a3 a4 a5 e1 e2) w e vs hM ha
        | false =>
          cases h3 : (svX (⟨L, Q, fu, fd, off⟩ : DS) i ep gn tl fl != 0) with
          | true =>
            have hk1 : (svK (L.length : Int) i ep gn tl fl != 0) = false := by unfold svK; rw [h0, cond_false, h1, cond_false, h2]; rfl
            have e1 : (svS (⟨L, Q, fu, fd, off⟩ : DS) i ep gn tl fl) = (svT (⟨L, Q, fu, fd, off⟩ : DS) i ep gn tl fl) := by show (bif (svK (L.length : Int) i ep gn tl fl != 0) then _ else (bif (svX (⟨L, Q, fu, fd, off⟩ : DS) i ep gn tl fl != 0) then _ else _)) = _; rw [hk1, h3]; rfl
            have e2 : svE (⟨L, Q, fu, fd, off⟩ : DS) i ep gn tl fl = svX (⟨L, Q, fu, fd, off⟩ : DS) i ep gn tl fl := by show (bif (svK (L.length : Int) i ep gn tl fl != 0) then _ else (bif (svX (⟨L, Q, fu, fd, off⟩ : DS) i ep gn tl fl != 0) then _ else _)) = _; rw [hk1, h3]; rfl
            exact ctr_way (I := Id') (fun (W0 : World) (G : Nat → Prop) => SyOk.mk2 Try.mixed dkHo_ok (FnsR.cons (R_hwrong) (FnsR.cons (F_new_ok (J := dkI) (hx := hardDk)) (FnsR.cons (F_put_ok (J := dkI) (hx := hardDk)) (FnsR.cons (F_done_ok (J := dkI) (hx := hardDk)) (FnsR.cons (R_seal) (FnsR.cons (R_hplace) (FnsR.cons (R_write) (FnsR.cons (R_flush) (FnsR.nil))))))))) EqsOk.nil) rfl Try.func36 (by kernel_rfl) (fun _ _ => LpsOk.nil _) (cs := [false, false, false, true]) (by kernel_rfl) (save3_w0 L Q fu fd off i ep gn tl fl h0 h1 h2 h3 a0 a1 a2 a3 a4 a5 e1 e2) w e vs hM ha
          | false =>
            have hk1 : (svK (L.length : Int) i ep gn tl fl != 0) = false := by unfold svK; rw [h0, cond_false, h1, cond_false, h2]; rfl
            have e1 : (svS (⟨L, Q, fu, fd, off⟩ : DS) i ep gn tl fl) = (flS L.length (svT (⟨L, Q, fu, fd, off⟩ : DS) i ep gn tl fl)) := by show (bif (svK (L.length : Int) i ep gn tl fl != 0) then _ else (bif (svX (⟨L, Q, fu, fd, off⟩ : DS) i ep gn tl fl != 0) then _ else _)) = _; rw [hk1, h3]; rfl
            have e2 : svE (⟨L, Q, fu, fd, off⟩ : DS) i ep gn tl fl = flE (L.length : Int) (svT (⟨L, Q, fu, fd, off⟩ : DS) i ep gn tl fl).off (svT (⟨L, Q, fu, fd, off⟩ : DS) i ep gn tl fl).fd (svT (⟨L, Q, fu, fd, off⟩ : DS) i ep gn tl fl).fu := by show (bif (svK (L.length : Int) i ep gn tl fl != 0) then _ else (bif (svX (⟨L, Q, fu, fd, off⟩ : DS) i ep gn tl fl != 0) then _ else _)) = _; rw [hk1, h3]; rfl
            exact ctr_way (I := Id') (fun (W0 : World) (G : Nat → Prop) => SyOk.mk2 Try.mixed dkHo_ok (FnsR.cons (R_hwrong) (FnsR.cons (F_new_ok (J := dkI) (hx := hardDk)) (FnsR.cons (F_put_ok (J := dkI) (hx := hardDk)) (FnsR.cons (F_done_ok (J := dkI) (hx := hardDk)) (FnsR.cons (R_seal) (FnsR.cons (R_hplace) (FnsR.cons (R_write) (FnsR.cons (R_flush) (FnsR.nil))))))))) EqsOk.nil) rfl Try.func36 (by kernel_rfl) (fun _ _ => LpsOk.nil _) (cs := [false, false, false, false]) (by kernel_rfl) (save4_w0 L Q fu fd off i ep gn tl fl h0 h1 h2 h3 a0 a1 a2 a3 a4 a5 e1 e2) w e vs hM ha
  · cases h
end Go.Proofs.Ytonomiljclemnaa
set_option linter.unusedVariables false
set_option linter.unusedSimpArgs false
namespace Go.Proofs.Ytonomiljclemnaa
open Go.RowKit
def hrT (a x : Int) (b : List UInt8) : Bool := (secNL b : Int) != 0 || !(secP b).fi || !(secP b).la || hpI a ((secP b).ct : Int) != x
def hrR (b : List UInt8) : RS := ((RS.new (secP b).d).get 40).get 24
def hrW (b : List UInt8) : Bool := endI (hrR b).l (hrR b).at' (hrR b).err != 0
def hrB (a x : Int) (b : List UInt8) : Bool := bif hrT a x b then false else !hrW b
def hrG (a x : Int) (b : List UInt8) : Int := bif hrB a x b then ((secP b).ct : Int) else 0
def hrL (a x : Int) (b : List UInt8) : Int := bif hrB a x b then ((RS.new (secP b).d).num 40 : Int) else 0
def hrF (a x : Int) (b : List UInt8) : Int := bif hrB a x b then (((RS.new (secP b).d).get 40).num 24 : Int) else 0
theorem secP_len (b : List UInt8) : (secP b).d.length ≤ 100000 := by
  unfold secP
  split
  · show ((b.drop 10).take (b.getD 9 0).toNat).length ≤ _
    have := (b.getD 9 0).toNat_lt
    rw [List.length_take]; omega
  · exact Nat.zero_le _
set_option maxRecDepth 100000 in
theorem hread_w0 (L : List (List UInt8)) (Q : List (Int × List UInt8)) (fu : Int) (fd off : Bool) (a i : Int) (h0 : hrT a (IntKind.i64.wrap (a + i)) (isD L Q (IntKind.i64.wrap (a + i))) = true) (h1 : WidL L) (h2 : WidQ Q) (h3 : 0 ≤ (IntKind.i64.wrap (a + i)) ∧ (IntKind.i64.wrap (a + i)).toNat < L.length) : ∃ qs, wayO Id' ([⟨.bx [.obj 1, .obj 2, .v (.int .i64 fu), .v (.bool fd), .v (.bool off)], true⟩, ⟨.us (.ext (.flat (.secs L))), true⟩, ⟨.us (.ext (.flat (.pens Q))), true⟩] : Mem Td).length [⟨.bx [.obj 1, .obj 2, .v (.int .i64 fu), .v (.bool fd), .v (.bool off)], true⟩, ⟨.us (.ext (.flat (.secs L))), true⟩, ⟨.us (.ext (.flat (.pens Q))), true⟩] (.tup [.agg [.v (.int .u64 (hrG a (IntKind.i64.wrap (a + i)) (isD L Q (IntKind.i64.wrap (a + i))))), .v (.int .u64 (hrL a (IntKind.i64.wrap (a + i)) (isD L Q (IntKind.i64.wrap (a + i))))), .v (.int .u64 (hrF a (IntKind.i64.wrap (a + i)) (isD L Q (IntKind.i64.wrap (a + i)))))], .one (.v (.bool (hrB a (IntKind.i64.wrap (a + i)) (isD L Q (IntKind.i64.wrap (a + i))))))]) ((runFn (⟨Try.prog, [(17, ctrF Id' C_readG hardD), (54, ctrF Id' C_unseal hardD), (51, ctrV C_hplace hardD), (F_open (hx := hardDk) : Nat × Fn2 Td), (F_get (hx := hardDk) : Nat × Fn2 Td), (F_rend : Nat × Fn2 Td)], [], dkHo, Id'.one, 60⟩ : Sy Td) [] Try.f46 [.one (.ptr 0 0), .one (.v (.int .i64 a)), .one (.v (.int .i64 i))] [⟨.bx [.obj 1, .obj 2, .v (.int .i64 fu), .v (.bool fd), .v (.bool off)], true⟩, ⟨.us (.ext (.flat (.secs L))), true⟩, ⟨.us (.ext (.flat (.pens Q))), true⟩]).al [true]) = some qs ∧ ∀ q ∈ qs, q :=
  ⟨[WidL L, (∀ (q : Int × List UInt8), q ∈ Q → q.snd.length = (128 : Nat)) ∧ Q.length ≤ (100000 : Nat), (0 : Int) ≤ IntKind.i64.wrap (a + i) ∧ (IntKind.i64.wrap (a + i)).toNat < L.length, (En.mk (Ob.us (Th.bal (isQ (L.getD (IntKind.i64.wrap (a + i)).toNat []) Q (IntKind.i64.wrap (a + i)) Q.length))) true : En Td) = En.mk (Ob.us (Th.bal (isQ (L.getD (IntKind.i64.wrap (a + i)).toNat []) Q (IntKind.i64.wrap (a + i)) Q.length))) true, ((↑(secNL (isD L Q (IntKind.i64.wrap (a + i)))) : Int) != (0 : Int) || !(secP (isD L Q (IntKind.i64.wrap (a + i)))).fi || !(secP (isD L Q (IntKind.i64.wrap (a + i)))).la || hpI a (↑(secP (isD L Q (IntKind.i64.wrap (a + i)))).ct : Int) != IntKind.i64.wrap (a + i)) = true, Value.int IntKind.i64 fu = Value.int IntKind.i64 fu, Value.bool fd = Value.bool fd, Value.bool off = Value.bool off, Th.ext (Dk.flat (FL.secs L)) = Th.ext (Dk.flat (FL.secs L)), Th.ext (Dk.flat (FL.pens Q)) = Th.ext (Dk.flat (FL.pens Q)), Value.int IntKind.u64 (Int.ofNat 0) = Value.int IntKind.u64 (hrG a (IntKind.i64.wrap (a + i)) (isD L Q (IntKind.i64.wrap (a + i)))), Value.int IntKind.u64 (Int.ofNat 0) = Value.int IntKind.u64 (hrL a (IntKind.i64.wrap (a + i)) (isD L Q (IntKind.i64.wrap (a + i)))), Value.int IntKind.u64 (Int.ofNat 0) = Value.int IntKind.u64 (hrF a (IntKind.i64.wrap (a + i)) (isD L Q (IntKind.i64.wrap (a + i)))), Value.bool false = Value.bool (hrB a (IntKind.i64.wrap (a + i)) (isD L Q (IntKind.i64.wrap (a + i))))], by kernel_rfl, (by refine mcons ?_ (mcons ?_ (mcons ?_ (mcons ?_ (mcons ?_ (mcons ?_ (mcons ?_ (mcons ?_ (mcons ?_ (mcons ?_ (mcons ?_ (mcons ?_ (mcons ?_ (mcons ?_ mnil))))))))))))) <;> first | rfl | exact h0 | exact h1 | exact h2 | exact h3 | trivial | (exact secP_len _) | (simp only [hrG, hrB, h0, h1, cond_true, cond_false, Bool.not_true, Bool.not_false]; done) | (simp only [hrG, hrB, h0, h1, cond_true, cond_false, Bool.not_true, Bool.not_false]; rfl) | (simp only [hrL, hrB, h0, h1, cond_true, cond_false, Bool.not_true, Bool.not_false]; done) | (simp only [hrL, hrB, h0, h1, cond_true, cond_false, Bool.not_true, Bool.not_false]; rfl) | (simp only [hrF, hrB, h0, h1, cond_true, cond_false, Bool.not_true, Bool.not_false]; done) | (simp only [hrF, hrB, h0, h1, cond_true, cond_false, Bool.not_true, Bool.not_false]; rfl) | (simp only [hrB, hrB, h0, h1, cond_true, cond_false, Bool.not_true, Bool.not_false]; done) | (simp only [hrB, hrB, h0, h1, cond_true, cond_false, Bool.not_true, Bool.not_false]; rfl) | (simp only [hrG, hrB, h0, cond_true, cond_false, Bool.not_true, Bool.not_false]; done) | (simp only [hrG, hrB, h0, cond_true, cond_false, Bool.not_true, Bool.not_false]; rfl) | (simp only [hrL, hrB, h0, cond_true, cond_false, Bool.not_true, Bool.not_false]; done) | (simp only [hrL, hrB, h0, cond_true, cond_false, Bool.not_true, Bool.not_false]; rfl) | (simp only [hrF, hrB, h0, cond_true, cond_false, Bool.not_true, Bool.not_false]; done) | (simp only [hrF, hrB, h0, cond_true, cond_false, Bool.not_true, Bool.not_false]; rfl) | (simp only [hrB, hrB, h0, cond_true, cond_false, Bool.not_true, Bool.not_false]; done) | (simp only [hrB, hrB, h0, cond_true, cond_false, Bool.not_true, Bool.not_false]; rfl))⟩
set_option maxRecDepth 100000 in
theorem hread_w1 (L : List (List UInt8)) (Q : List (Int × List UInt8)) (fu : Int) (fd off : Bool) (a i : Int) (h0 : hrT a (IntKind.i64.wrap (a + i)) (isD L Q (IntKind.i64.wrap (a + i))) = false) (h1 : hrW (isD L Q (IntKind.i64.wrap (a + i))) = true) (h2 : WidL L) (h3 : WidQ Q) (h4 : 0 ≤ (IntKind.i64.wrap (a + i)) ∧ (IntKind.i64.wrap (a + i)).toNat < L.length) : ∃ qs, wayO Id' ([⟨.bx [.obj 1, .obj 2, .v (.int .i64 fu), .v (.bool fd), .v (.bool off)], true⟩, ⟨.us (.ext (.flat (.secs L))), true⟩, ⟨.us (.ext (.flat (.pens Q))), true⟩] : Mem Td).length [⟨.bx [.obj 1, .obj 2, .v (.int .i64 fu), .v (.bool fd), .v (.bool off)], true⟩, ⟨.us (.ext (.flat (.secs L))), true⟩, ⟨.us (.ext (.flat (.pens Q))), true⟩] (.tup [.agg [.v (.int .u64 (hrG a (IntKind.i64.wrap (a + i)) (isD L Q (IntKind.i64.wrap (a + i))))), .v (.int .u64 (hrL a (IntKind.i64.wrap (a + i)) (isD L Q (IntKind.i64.wrap (a + i))))), .v (.int .u64 (hrF a (IntKind.i64.wrap (a + i)) (isD L Q (IntKind.i64.wrap (a + i)))))], .one (.v (.bool (hrB a (IntKind.i64.wrap (a + i)) (isD L Q (IntKind.i64.wrap (a + i))))))]) ((runFn (⟨Try.prog, [(17, ctrF Id' C_readG hardD), (54, ctrF Id' C_unseal hardD), (51, ctrV C_hplace hardD), (F_open (hx := hardDk) : Nat × Fn2 Td), (F_get (hx := hardDk) : Nat × Fn2 Td), (F_rend : Nat × Fn2 Td)], [], dkHo, Id'.one, 60⟩ : Sy Td) [] Try.f46 [.one (.ptr 0 0), .one (.v (.int .i64 a)), .one (.v (.int .i64 i))] [⟨.bx [.obj 1, .obj 2, .v (.int .i64 fu), .v (.bool fd), .v (.bool off)], true⟩, ⟨.us (.ext (.flat (.secs L))), true⟩, ⟨.us (.ext (.flat (.pens Q))), true⟩]).al [false, true]) = some qs ∧ ∀ q ∈ qs, q :=
  ⟨[WidL L, (∀ (q : Int × List UInt8), q ∈ Q → q.snd.length = (128 : Nat)) ∧ Q.length ≤ (100000 : Nat), (0 : Int) ≤ IntKind.i64.wrap (a + i) ∧ (IntKind.i64.wrap (a + i)).toNat < L.length, (En.mk (Ob.us (Th.bal (isQ (L.getD (IntKind.i64.wrap (a + i)).toNat []) Q (IntKind.i64.wrap (a + i)) Q.length))) true : En Td) = En.mk (Ob.us (Th.bal (isQ (L.getD (IntKind.i64.wrap (a + i)).toNat []) Q (IntKind.i64.wrap (a + i)) Q.length))) true, ((↑(secNL (isD L Q (IntKind.i64.wrap (a + i)))) : Int) != (0 : Int) || !(secP (isD L Q (IntKind.i64.wrap (a + i)))).fi || !(secP (isD L Q (IntKind.i64.wrap (a + i)))).la || hpI a (↑(secP (isD L Q (IntKind.i64.wrap (a + i)))).ct : Int) != IntKind.i64.wrap (a + i)) = false, (secP (isD L Q (IntKind.i64.wrap (a + i)))).d.length ≤ (100000 : Nat), (endI (((RS.new (secP (isD L Q (IntKind.i64.wrap (a + i)))).d).get (40 : Int)).get (24 : Int)).l (((RS.new (secP (isD L Q (IntKind.i64.wrap (a + i)))).d).get (40 : Int)).get (24 : Int)).at' (((RS.new (secP (isD L Q (IntKind.i64.wrap (a + i)))).d).get (40 : Int)).get (24 : Int)).err != (0 : Int)) = true, Value.int IntKind.i64 fu = Value.int IntKind.i64 fu, Value.bool fd = Value.bool fd, Value.bool off = Value.bool off, Th.ext (Dk.flat (FL.secs L)) = Th.ext (Dk.flat (FL.secs L)), Th.ext (Dk.flat (FL.pens Q)) = Th.ext (Dk.flat (FL.pens Q)), Value.int IntKind.u64 (Int.ofNat 0) = Value.int IntKind.u64 (hrG a (IntKind.i64.wrap (a + i)) (isD L Q (IntKind.i64.wrap (a + i)))), Value.int IntKind.u64 (Int.ofNat 0) = Value.int IntKind.u64 (hrL a (IntKind.i64.wrap (a + i)) (isD L Q (IntKind.i64.wrap (a + i)))), Value.int IntKind.u64 (Int.ofNat 0) = Value.int IntKind.u64 (hrF a (IntKind.i64.wrap (a + i)) (isD L Q (IntKind.i64.wrap (a + i)))), Value.bool false = Value.bool (hrB a (IntKind.i64.wrap (a + i)) (isD L Q (IntKind.i64.wrap (a + i))))], by kernel_rfl, (by refine mcons ?_ (mcons ?_ (mcons ?_ (mcons ?_ (mcons ?_ (mcons ?_ (mcons ?_ (mcons ?_ (mcons ?_ (mcons ?_ (mcons ?_ (mcons ?_ (mcons ?_ (mcons ?_ (mcons ?_ (mcons ?_ mnil))))))))))))))) <;> first | rfl | exact h0 | exact h1 | exact h2 | exact h3 | exact h4 | trivial | (exact secP_len _) | (simp only [hrG, hrB, h0, h1, cond_true, cond_false, Bool.not_true, Bool.not_false]; done) | (simp only [hrG, hrB, h0, h1, cond_true, cond_false, Bool.not_true, Bool.not_false]; rfl) | (simp only [hrL, hrB, h0, h1, cond_true, cond_false, Bool.not_true, Bool.not_false]; done) | (simp only [hrL, hrB, h0, h1, cond_true, cond_false, Bool.not_true, Bool.not_false]; rfl) | (simp only [hrF, hrB, h0, h1, cond_true, cond_false, Bool.not_true, Bool.not_false]; done) | (simp only [hrF, hrB, h0, h1, cond_true, cond_false, Bool.not_true, Bool.not_false]; rfl) | (simp only [hrB, hrB, h0, h1, cond_true, cond_false, Bool.not_true, Bool.not_false]; done) | (simp only [hrB, hrB, h0, h1, cond_true, cond_false, Bool.not_true, Bool.not_false]; rfl) | (simp only [hrG, hrB, h0, cond_true, cond_false, Bool.not_true, Bool.not_false]; done) | (simp only [hrG, hrB, h0, cond_true, cond_false, Bool.not_true, Bool.not_false]; rfl) | (simp only [hrL, hrB, h0, cond_true, cond_false, Bool.not_true, Bool.not_false]; done) | (simp only [hrL, hrB, h0, cond_true, cond_false, Bool.not_true, Bool.not_false]; rfl) | (simp only [hrF, hrB, h0, cond_true, cond_false, Bool.not_true, Bool.not_false]; done) | (simp only [hrF, hrB, h0, cond_true, cond_false, Bool.not_true, Bool.not_false]; rfl) | (simp only [hrB, hrB, h0, cond_true, cond_false, Bool.not_true, Bool.not_false]; done) | (simp only [hrB, hrB, h0, cond_true, cond_false, Bool.not_true, Bool.not_false]; rfl))⟩
set_option maxRecDepth 100000 in
theorem hread_w2 (L : List (List UInt8)) (Q : List (Int × List UInt8)) (fu : Int) (fd off : Bool) (a i : Int) (h0 : hrT a (IntKind.i64.wrap (a + i)) (isD L Q (IntKind.i64.wrap (a + i))) = false) (h1 : hrW (isD L Q (IntKind.i64.wrap (a + i))) = false) (h2 : WidL L) (h3 : WidQ Q) (h4 : 0 ≤ (IntKind.i64.wrap (a + i)) ∧ (IntKind.i64.wrap (a + i)).toNat < L.length) : ∃ qs, wayO Id' ([⟨.bx [.obj 1, .obj 2, .v (.int .i64 fu), .v (.bool fd), .v (.bool off)], true⟩, ⟨.us (.ext (.flat (.secs L))), true⟩, ⟨.us (.ext (.flat (.pens Q))), true⟩] : Mem Td).length [⟨.bx [.obj 1, .obj 2, .v (.int .i64 fu), .v (.bool fd), .v (.bool off)], true⟩, ⟨.us (.ext (.flat (.secs L))), true⟩, ⟨.us (.ext (.flat (.pens Q))), true⟩] (.tup [.agg [.v (.int .u64 (hrG a (IntKind.i64.wrap (a + i)) (isD L Q (IntKind.i64.wrap (a + i))))), .v (.int .u64 (hrL a (IntKind.i64.wrap (a + i)) (isD L Q (IntKind.i64.wrap (a + i))))), .v (.int .u64 (hrF a (IntKind.i64.wrap (a + i)) (isD L Q (IntKind.i64.wrap (a + i)))))], .one (.v (.bool (hrB a (IntKind.i64.wrap (a + i)) (isD L Q (IntKind.i64.wrap (a + i))))))]) ((runFn (⟨Try.prog, [(17, ctrF Id' C_readG hardD), (54, ctrF Id' C_unseal hardD), (51, ctrV C_hplace hardD), (F_open (hx := hardDk) : Nat × Fn2 Td), (F_get (hx := hardDk) : Nat × Fn2 Td), (F_rend : Nat × Fn2 Td)], [], dkHo, Id'.one, 60⟩ : Sy Td) [] Try.f46 [.one (.ptr 0 0), .one (.v (.int .i64 a)), .one (.v (.int .i64 i))] [⟨.bx [.obj 1, .obj 2, .v (.int .i64 fu), .v (.bool fd), .v (.bool off)], true⟩, ⟨.us (.ext (.flat (.secs L))), true⟩, ⟨.us (.ext (.flat (.pens Q))), true⟩]).al [false, false]) = some qs ∧ ∀ q ∈ qs, q :=
  ⟨[WidL L, (∀ (q : Int × List UInt8), q ∈ Q → q.snd.length = (128 : Nat)) ∧ Q.length ≤ (100000 : Nat), (0 : Int) ≤ IntKind.i64.wrap (a + i) ∧ (IntKind.i64.wrap (a + i)).toNat < L.length, (En.mk (Ob.us (Th.bal (isQ (L.getD (IntKind.i64.wrap (a + i)).toNat []) Q (IntKind.i64.wrap (a + i)) Q.length))) true : En Td) = En.mk (Ob.us (Th.bal (isQ (L.getD (IntKind.i64.wrap (a + i)).toNat []) Q (IntKind.i64.wrap (a + i)) Q.length))) true, ((↑(secNL (isD L Q (IntKind.i64.wrap (a + i)))) : Int) != (0 : Int) || !(secP (isD L Q (IntKind.i64.wrap (a + i)))).fi || !(secP (isD L Q (IntKind.i64.wrap (a + i)))).la || hpI a (↑(secP (isD L Q (IntKind.i64.wrap (a + i)))).ct : Int) != IntKind.i64.wrap (a + i)) = false, (secP (isD L Q (IntKind.i64.wrap (a + i)))).d.length ≤ (100000 : Nat), (endI (((RS.new (secP (isD L Q (IntKind.i64.wrap (a + i)))).d).get (40 : Int)).get (24 : Int)).l (((RS.new (secP (isD L Q (IntKind.i64.wrap (a + i)))).d).get (40 : Int)).get (24 : Int)).at' (((RS.new (secP (isD L Q (IntKind.i64.wrap (a + i)))).d).get (40 : Int)).get (24 : Int)).err != (0 : Int)) = false, Value.int IntKind.i64 fu = Value.int IntKind.i64 fu, Value.bool fd = Value.bool fd, Value.bool off = Value.bool off, Th.ext (Dk.flat (FL.secs L)) = Th.ext (Dk.flat (FL.secs L)), Th.ext (Dk.flat (FL.pens Q)) = Th.ext (Dk.flat (FL.pens Q)), Value.int IntKind.u64 (↑(secP (isD L Q (IntKind.i64.wrap (a + i)))).ct : Int) = Value.int IntKind.u64 (hrG a (IntKind.i64.wrap (a + i)) (isD L Q (IntKind.i64.wrap (a + i)))), Value.int IntKind.u64 (↑((RS.new (secP (isD L Q (IntKind.i64.wrap (a + i)))).d).num (40 : Int)) : Int) = Value.int IntKind.u64 (hrL a (IntKind.i64.wrap (a + i)) (isD L Q (IntKind.i64.wrap (a + i)))), Value.int IntKind.u64 (↑(((RS.new (secP (isD L Q (IntKind.i64.wrap (a + i)))).d).get (40 : Int)).num (24 : Int)) : Int) = Value.int IntKind.u64 (hrF a (IntKind.i64.wrap (a + i)) (isD L Q (IntKind.i64.wrap (a + i)))), Value.bool true = Value.bool (hrB a (IntKind.i64.wrap (a + i)) (isD L Q (IntKind.i64.wrap (a + i))))], by kernel_rfl, (by refine mcons ?_ (mcons ?_ (mcons ?_ (mcons ?_ (mcons ?_ (mcons ?_ (mcons ?_ (mcons ?_ (mcons ?_ (mcons ?_ (mcons ?_ (mcons ?_ (mcons ?_ (mcons ?_ (mcons ?_ (mcons ?_ mnil))))))))))))))) <;> first | rfl | exact h0 | exact h1 | exact h2 | exact h3 | exact h4 | trivial | (exact secP_len _) | (simp only [hrG, hrB, h0, h1, cond_true, cond_false, Bool.not_true, Bool.not_false]; done) | (simp only [hrG, hrB, h0, h1, cond_true, cond_false, Bool.not_true, Bool.not_false]; rfl) | (simp only [hrL, hrB, h0, h1, cond_true, cond_false, Bool.not_true, Bool.not_false]; done) | (simp only [hrL, hrB, h0, h1, cond_true, cond_false, Bool.not_true, Bool.not_false]; rfl) | (simp only [hrF, hrB, h0, h1, cond_true, cond_false, Bool.not_true, Bool.not_false]; done) | (simp only [hrF, hrB, h0, h1, cond_true, cond_false, Bool.not_true, Bool.not_false]; rfl) | (simp only [hrB, hrB, h0, h1, cond_true, cond_false, Bool.not_true, Bool.not_false]; done) | (simp only [hrB, hrB, h0, h1, cond_true, cond_false, Bool.not_true, Bool.not_false]; rfl) | (simp only [hrG, hrB, h0, cond_true, cond_false, Bool.not_true, Bool.not_false]; done) | (simp only [hrG, hrB, h0, cond_true, cond_false, Bool.not_true, Bool.not_false]; rfl) | (simp only [hrL, hrB, h0, cond_true, cond_false, Bool.not_true, Bool.not_false]; done) | (simp only [hrL, hrB, h0, cond_true, cond_false, Bool.not_true, Bool.not_false]; rfl) | (simp only [hrF, hrB, h0, cond_true, cond_false, Bool.not_true, Bool.not_false]; done) | (simp only [hrF, hrB, h0, cond_true, cond_false, Bool.not_true, Bool.not_false]; rfl) | (simp only [hrB, hrB, h0, cond_true, cond_false, Bool.not_true, Bool.not_false]; done) | (simp only [hrB, hrB, h0, cond_true, cond_false, Bool.not_true, Bool.not_false]; rfl))⟩
end Go.Proofs.Ytonomiljclemnaa
set_option linter.unusedVariables false
set_option linter.unusedSimpArgs false
namespace Go.Proofs.Ytonomiljclemnaa
open Go.RowKit
def C_hread : Ctr Td := fun us sub => match us, sub with
  | [.one (.ptr 0 0), .one (.v (.int .i64 a)), .one (.v (.int .i64 i))], [⟨.bx [.obj 1, .obj 2, .v (.int .i64 fu), .v (.bool fd), .v (.bool off)], true⟩, ⟨.us (.ext (.flat (.secs L))), true⟩, ⟨.us (.ext (.flat (.pens Q))), true⟩] => some ([WidL L, WidQ Q, 0 ≤ (IntKind.i64.wrap (a + i)) ∧ (IntKind.i64.wrap (a + i)).toNat < L.length], .tup [.agg [.v (.int .u64 (hrG a (IntKind.i64.wrap (a + i)) (isD L Q (IntKind.i64.wrap (a + i))))), .v (.int .u64 (hrL a (IntKind.i64.wrap (a + i)) (isD L Q (IntKind.i64.wrap (a + i))))), .v (.int .u64 (hrF a (IntKind.i64.wrap (a + i)) (isD L Q (IntKind.i64.wrap (a + i)))))], .one (.v (.bool (hrB a (IntKind.i64.wrap (a + i)) (isD L Q (IntKind.i64.wrap (a + i))))))], [⟨.bx [.obj 1, .obj 2, .v (.int .i64 fu), .v (.bool fd), .v (.bool off)], true⟩, ⟨.us (.ext (.flat (.secs L))), true⟩, ⟨.us (.ext (.flat (.pens Q))), true⟩])
  | _, _ => none
set_option maxRecDepth 100000 in
theorem C_hread_ok : CtrOk Try.prog Id' 46 C_hread := by
  intro us sub ps x sm h hp w e vs hM ha
  unfold C_hread at h
  split at h
  · rename_i a i fu fd off L Q
    simp only [Option.some.injEq, Prod.mk.injEq] at h
    obtain ⟨rfl, rfl, rfl⟩ := h
    have b0 : WidL L := hp _ (by simp)
    have b1 : WidQ Q := hp _ (by simp)
    have b2 : 0 ≤ (IntKind.i64.wrap (a + i)) ∧ (IntKind.i64.wrap (a + i)).toNat < L.length := hp _ (by simp)
    cases h0 : hrT a (IntKind.i64.wrap (a + i)) (isD L Q (IntKind.i64.wrap (a + i))) with
    | true => exact ctr_way (I := Id') (fun (W0 : World) (G : Nat → Prop) => SyOk.mk2 Try.mixed dkHo_ok (FnsR.cons (R_readG) (FnsR.cons (R_unseal) (FnsR.cons (R_hplace) (FnsR.cons (F_open_ok (J := dkI) (hx := hardDk)) (FnsR.cons (F_get_ok (J := dkI) (hx := hardDk)) (FnsR.cons (F_rend_ok (J := dkI) (hx := hardDk)) (FnsR.nil))))))) EqsOk.nil) rfl Try.func46 (by kernel_rfl) (fun _ _ => LpsOk.nil _) (cs := [true]) (by kernel_rfl) (hread_w0 L Q fu fd off a i h0 b0 b1 b2) w e vs hM ha
    | false =>
      cases h1 : hrW (isD L Q (IntKind.i64.wrap (a + i))) with
      | true => exact ctr_way (I := Id') (fun (W0 : World) (G : Nat → Prop) => SyOk.mk2 Try.mixed dkHo_ok (FnsR.cons (R_readG) (FnsR.cons (R_unseal) (FnsR.cons (R_hplace) (FnsR.cons (F_open_ok (J := dkI) (hx := hardDk)) (FnsR.cons (F_get_ok (J := dkI) (hx := hardDk)) (FnsR.cons (F_rend_ok (J := dkI) (hx := hardDk)) (FnsR.nil))))))) EqsOk.nil) rfl Try.func46 (by kernel_rfl) (fun _ _ => LpsOk.nil _) (cs := [false, true]) (by kernel_rfl) (hread_w1 L Q fu fd off a i h0 h1 b0 b1 b2) w e vs hM ha
      | false => exact ctr_way (I := Id') (fun (W0 : World) (G : Nat → Prop) => SyOk.mk2 Try.mixed dkHo_ok (FnsR.cons (R_readG) (FnsR.cons (R_unseal) (FnsR.cons (R_hplace) (FnsR.cons (F_open_ok (J := dkI) (hx := hardDk)) (FnsR.cons (F_get_ok (J := dkI) (hx := hardDk)) (FnsR.cons (F_rend_ok (J := dkI) (hx := hardDk)) (FnsR.nil))))))) EqsOk.nil) rfl Try.func46 (by kernel_rfl) (fun _ _ => LpsOk.nil _) (cs := [false, false]) (by kernel_rfl) (hread_w2 L Q fu fd off a i h0 h1 b0 b1 b2) w e vs hM ha
  · cases h
theorem R_hread : RowOk Try.prog Id' hardD 46 (ctrF Id' C_hread hardD) := ctrF_ok Try.call46 C_hread_ok
end Go.Proofs.Ytonomiljclemnaa
