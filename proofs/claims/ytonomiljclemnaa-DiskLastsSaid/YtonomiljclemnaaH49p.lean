/- H49. -/
import Derived.Test.YtonomiljclemnaaH48p
import Derived.Test.YtonomiljclemnaaHRdp
set_option linter.unusedVariables false
set_option linter.unusedSimpArgs false
namespace Go.Proofs.Ytonomiljclemnaa
open Go.RowKit
set_option maxHeartbeats 4000000 in
set_option maxRecDepth 100000 in
theorem diskLasts_c (l m : List DoD) (ks : List Int) (tn : Int) : ∀ w e vs, MemOk w (FootOf Id' w e [⟨.us (.ext (.shr 6 l.length (doEl l))), false⟩, ⟨.us (.ext (.shr 6 m.length (doEl m))), false⟩, ⟨.us (.ext (.nums ks)), false⟩]) Id' w e [⟨.us (.ext (.shr 6 l.length (doEl l))), false⟩, ⟨.us (.ext (.shr 6 m.length (doEl m))), false⟩, ⟨.us (.ext (.nums ks)), false⟩] → AllC e [.one (.obj 0), .one (.obj 1), .one (.obj 2), .one (.v (.int .i64 tn))] vs →
    Calls Try.prog 3 vs.toArray w (fun y w' => ∃ v e', y = .returned v ∧ Grows e e' ∧ (svV (.bool true)).is e' v ∧ MemOk w (FootOf Id' w e [⟨.us (.ext (.shr 6 l.length (doEl l))), false⟩, ⟨.us (.ext (.shr 6 m.length (doEl m))), false⟩, ⟨.us (.ext (.nums ks)), false⟩]) Id' w' e' [⟨.us (.ext (.shr 6 l.length (doEl l))), false⟩, ⟨.us (.ext (.shr 6 m.length (doEl m))), false⟩, ⟨.us (.ext (.nums ks)), false⟩]) := by
  intro w e vs hM ha
  have hp := pdE_inv l
  have hf := pdE_free l
  have h6 : ((pdE l).L.length : Int) = 6 := by rw [hp.len]; rfl
  have hi := fl_inv hp (by decide) (by decide)
  have hE : flE ((pdE l).L.length : Int) (pdE l).off (pdE l).fd (pdE l).fu = 0 := by rw [h6, hf.1, hf.2]; rfl
  have eL : (flL (pdE l).L (pdE l).Q (flE ((pdE l).L.length : Int) (pdE l).off (pdE l).fd (pdE l).fu)) = (flS 6 (pdE l)).L := by
    show flL _ _ (flE ((pdE l).L.length : Int) _ _ _) = flL _ _ (flE ((6 : Nat) : Int) _ _ _)
    rw [hp.len]
  have eQ : (flP (pdE l).Q (flE ((pdE l).L.length : Int) (pdE l).off (pdE l).fd (pdE l).fu)) = [] := by rw [hE]; rfl
  have eO : (flOff ((pdE l).L.length : Int) (pdE l).off (pdE l).fd (pdE l).fu) = false := by rw [h6, hf.1, hf.2]; rfl
  obtain ⟨L, hLe⟩ : ∃ L, L = (flS 6 (pdE l)).L := ⟨_, rfl⟩
  rw [← hLe] at eL
  have hL : WidL L := by rw [hLe]; exact hi.L
  have hL6 : L.length = 6 := by rw [hLe]; exact hi.len
  have hq := lsQ_ok m (min m.length 10)
  have hql := lsQ_len m (min m.length 10)
  have hst : ∀ i, i < L.length → ((crD L (lsQ m (min m.length 10)) ks tn).getD i []).length = 128 ∧ standL (L.getD i []) ((crD L (lsQ m (min m.length 10)) ks tn).getD i []) ((lsQ m (min m.length 10)).map (·.1)) ((lsQ m (min m.length 10)).map (·.2)) (i : Int) tn := fun i hi => crD_stand hL (fun q h => (hq q h).1) (fun q h => by rw [hL6]; exact (hq q h).2) (by omega) hi
  have hl1 : (crD L (lsQ m (min m.length 10)) ks tn).length = 6 := (crQ_len L _ ks tn _).trans hL6
  have hL1 : WidL (crD L (lsQ m (min m.length 10)) ks tn) := fun x hx => by
    obtain ⟨i, hi, rfl⟩ := List.getElem_of_mem hx
    have := (hst i (by rw [hl1] at hi; omega)).1
    rwa [List.getD_eq_getElem?_getD, List.getElem?_eq_getElem hi] at this
  have hWg : ∀ k, k < 6 → (secN L [] 6).getD k [] = L.getD k [] := fun k hk => by
    unfold secN
    rw [List.getD_eq_getElem?_getD, List.getElem?_map, List.getElem?_range hk]
    rfl
  have hWW : WidL (secN L [] 6) := fun x hx => by
    obtain ⟨i, hi, rfl⟩ := List.getElem_of_mem hx
    rw [secN_len] at hi
    have h1 := hWg i hi
    rw [List.getD_eq_getElem?_getD, List.getElem?_eq_getElem (by rw [secN_len]; exact hi)] at h1
    have h2 := WidL.at hL (k := (i : Int)) ⟨by omega, by omega⟩
    rw [Int.toNat_natCast, ← h1] at h2
    exact h2
  have hD : WidL ((lsQ m (min m.length 10)).map (·.2)) := fun x hx => by
    obtain ⟨q, h1, rfl⟩ := List.mem_map.1 hx
    exact (hq q h1).1
  have hl2 : ∀ {W0 : World} {G : Nat → Prop} (S0 : Sy Td) (hS0 : S0.P = Try.prog), LoopSound S0 Id' W0 G 176 (hdC (loopsC (bodyOf Try.f3)) 1) (lpG Id' 176 (hdC (loopsC (bodyOf Try.f3)) 1) 12 [(16, .c (.one (.v (.int .i64 ((0 : Nat) : Int)))))] [(3, .c (.one (.v (.int .i64 tn)))), (9, .c (.one (.ptr 3 0))), (10, .c (.one (.obj 7))), (11, .c (.one (.obj 9))), (12, .c (.one (.obj 10)))] [⟨.us (.ext (.shr 6 l.length (doEl l))), false⟩, ⟨.us (.ext (.shr 6 m.length (doEl m))), false⟩, ⟨.us (.ext (.nums ks)), false⟩, ⟨.bx [.obj 4, .obj 11, .v (.int .i64 (flFu ((pdE l).L.length : Int) (pdE l).off (pdE l).fd (pdE l).fu)), .v (.bool false), .v (.bool false)], true⟩, ⟨.us (.ext (.flat (.secs (crD L (lsQ m (min m.length 10)) ks tn)))), true⟩, ⟨.dead, true⟩, ⟨.dead, true⟩, ⟨.us (.ext (.tab (.bs (secN L [] 6)))), true⟩, ⟨.dead, true⟩, ⟨.us (.ins ((lsQ m (min m.length 10)).map (·.1))), true⟩, ⟨.us (.ext (.tab (.bs ((lsQ m (min m.length 10)).map (·.2))))), true⟩, ⟨.us (.ext (.flat (.pens []))), true⟩] (.leaf (.exit 2) [] [⟨.us (.ext (.shr 6 l.length (doEl l))), false⟩, ⟨.us (.ext (.shr 6 m.length (doEl m))), false⟩, ⟨.us (.ext (.nums ks)), false⟩, ⟨.bx [.obj 4, .obj 11, .v (.int .i64 (flFu ((pdE l).L.length : Int) (pdE l).off (pdE l).fd (pdE l).fu)), .v (.bool false), .v (.bool false)], true⟩, ⟨.us (.ext (.flat (.secs (crD L (lsQ m (min m.length 10)) ks tn)))), true⟩, ⟨.dead, true⟩, ⟨.dead, true⟩, ⟨.us (.ext (.tab (.bs (secN L [] 6)))), true⟩, ⟨.dead, true⟩, ⟨.us (.ins ((lsQ m (min m.length 10)).map (·.1))), true⟩, ⟨.us (.ext (.tab (.bs ((lsQ m (min m.length 10)).map (·.2))))), true⟩, ⟨.us (.ext (.flat (.pens []))), true⟩])) := fun S0 hS0 => las2_lp l m ks (crD L (lsQ m (min m.length 10)) ks tn) (secN L [] 6) (flFu ((pdE l).L.length : Int) (pdE l).off (pdE l).fd (pdE l).fu) ((lsQ m (min m.length 10)).map (·.1)) ((lsQ m (min m.length 10)).map (·.2)) tn hL1 hl1 hWW (secN_len L [] 6) hD (by rw [List.length_map, List.length_map]) (by rw [List.length_map]; omega) (fun k hk => by rw [hWg k hk]; exact (hst k (by omega)).2) S0 hS0
  exact ctr_way (I := Id') (fun (W0 : World) (G : Nat → Prop) => SyOk.mk2 Try.mixed dkHo_ok (FnsR.cons (R_played l) (FnsR.cons (R_flush) (FnsR.cons (R_sects) (FnsR.cons (R_crash) (FnsR.cons (R_live) (FnsR.cons (R_waits) (FnsR.cons (R_lives) (FnsR.nil)))))))) EqsOk.nil) rfl Try.func3 (by kernel_rfl) (fun _ _ => LpsOk.cons (by kernel_rfl) (las1_lp l m ks L (secN L [] 6) (flFu ((pdE l).L.length : Int) (pdE l).off (pdE l).fd (pdE l).fu) hL6 _ rfl) (LpsOk.cons (by kernel_rfl) (hl2 _ rfl) (LpsOk.nil _))) (cs := [false, true, true]) (by kernel_rfl) (lasts_w0 l m ks tn L (secN L [] 6) (crD L (lsQ m (min m.length 10)) ks tn) (flFu ((pdE l).L.length : Int) (pdE l).off (pdE l).fd (pdE l).fu) hE (by rw [eL]; exact hL) (by rw [eQ]; exact ⟨(fun q h => by cases h), Nat.zero_le _⟩) (by rw [eL]; exact hL6) (hp.wq (by decide)) (by rw [hp.len]; exact hp.at') eL eQ rfl hf.1 eO (by rw [eL, eQ]) ⟨fun q h => (hq q h).1, by omega⟩ (fun q h => by rw [hL6]; exact (hq q h).2) (by omega) rfl hl1) w e vs hM ha
theorem is_lt {w : World} {u : Value} {l : List Int} (h : Is w u l) : ∀ k, Id'.foot (.ext (.nums l)) w u k → k < w.heap.size := fun k hk => rs_lt h (by intro h0; exact hk.1 (List.length_eq_zero_iff.1 h0)) (by decide) hk.2
theorem diskLasts_calls (u : Value) (l : List DoD) (v : Value) (m : List DoD) (ao : Option Addr) (cap : Nat) (ks : List Int) (tn : Int) (W : World) (h : DosIs W u l) (h' : DosIs W v m) (hk : Is W (.slice ao ks.length cap) ks ∧ ∀ z ∈ ks, -9223372036854775808 ≤ z ∧ z ≤ 9223372036854775807) (_ : -9223372036854775808 ≤ tn ∧ tn ≤ 9223372036854775807) : Calls Try.prog 3 #[u, v, .slice ao ks.length cap, .int .i64 tn] W fun e w' => e = .returned (.bool true) ∧ Below W.heap.size W w' := by
  have h1 := args_us (args_nil Id' W) (fun n hn => by cases hn) (b := .ext (.shr 6 l.length (doEl l))) (u := u) h.1 (shr_lt h)
  have h2 := args_us h1 (fun n hn => by simp at hn; subst hn; rfl) (b := .ext (.shr 6 m.length (doEl m))) (u := v) h'.1 (shr_lt h')
  have hM := args_us h2 (fun n hn => by simp at hn; rcases hn with rfl | rfl <;> rfl) (b := .ext (.nums ks)) (u := .slice ao ks.length cap) hk.1 (is_lt hk.1)
  refine (diskLasts_c l m ks tn W [u, v, .slice ao ks.length cap] [u, v, .slice ao ks.length cap, .int .i64 tn] hM ⟨rfl, rfl, rfl, rfl, trivial⟩).mono fun y w' ⟨u', e', q1, _, q2, q3⟩ => ⟨q1.trans (congrArg _ q2), ?_⟩
  have hx : Ext W w' := q3.mod.mono fun k _ hk => by
    obtain ⟨i, _, n, _, hn, hmu, _⟩ := footE.1 hk
    match i, hn with
    | 0, hn => simp at hn; subst hn; cases hmu
    | 1, hn => simp at hn; subst hn; cases hmu
    | 2, hn => simp at hn; subst hn; cases hmu
    | i + 3, hn => simp at hn
  exact hx.below
end Go.Proofs.Ytonomiljclemnaa
