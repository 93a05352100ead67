/- The document's reader in a block: rows. -/
import Derived.Test.YtophabekaicdeaaQ2
import Derived.Test.YtophabekaicdeaaF2


set_option linter.unusedVariables false
set_option linter.unusedSimpArgs false
namespace Go.Proofs.Ytophabekaicdeaa
open Go.RowKit

section
variable {ξ : Type} {J : ObI ξ} {W0 : World} {G : Nat → Prop} {F : Fns (Th ξ)}
/-- All bits of bytes: a row that is read. -/
def F_rofr : Nat × Fn2 (Th ξ) := (54, fun us mem => match us with
  | [.one x] => (match bytesP mem x with
    | some l => some ([l.length ≤ 100000], .c (.one (.obj mem.length)), some (mem ++ [⟨.us (.rr (RS.new l)), true⟩]))
    | _ => none)
  | _ => none)
theorem F_rofr_ok (ht : FnsOk Try.prog (thI J) W0 G F) : FnsOk Try.prog (thI J) W0 G (F_rofr :: F) :=
  FnsOk.cons Try.call54 (fun args mem ps r mo hr hp w e us hM ha => by
    split at hr
    · rename_i x
      split at hr
      · rename_i l hb
        simp only [Option.some.injEq, Prod.mk.injEq] at hr
        obtain ⟨rfl, rfl, rfl⟩ := hr
        obtain ⟨u0, rfl, a0⟩ := allC1 ha
        have h0 : l.length ≤ 100000 := hp _ (List.mem_cons_self ..)
        refine (rof_c u0 l w (bytesP_is hM hb (is_one a0)) h0).mono fun x w' ⟨ao, cap, g1, g2, g3⟩ => ⟨_, g1, e ++ [.slice ao (8 * l.length) cap], Grows.push e _, ?_, ?_⟩
        · show (e ++ [_])[mem.length]? = _
          rw [← hM.len, List.getElem?_append_right (Nat.le_refl _)]; simp
        · refine hM.push g2 _ ⟨.us (.rr (RS.new l)), true⟩ ⟨?_, fun k hk => (owns_block g3 hk).2, h0, Nat.zero_le _⟩ fun k hk => owns_block g3 hk
          show Bs w' _ (bbs ((bitsAll l).drop 0))
          rw [List.drop_zero]
          have hl8 : (bbs (bitsAll l)).length = 8 * l.length := by rw [bbs_length, bitsAll_length]
          unfold Bs
          rw [hl8]; exact Rs.of_owns g3
      · cases hr
    · cases hr) ht
/-- A reader's block, its row. -/
def rdAt (mem : Mem (Th ξ)) (i : Nat) : Option (Nat × RS × Int) := match mem[i]? with
  | some ⟨.blk [.obj j, pe], true⟩ => (match mem[j]?, valP pe with
    | some ⟨.us (.rr s), true⟩, some (.int .i64 e0) => some (j, s, e0)
    | _, _ => none)
  | _ => none
def rdTo (mem : Mem (Th ξ)) (i j : Nat) (s : RS) : Mem (Th ξ) := (mem.set i ⟨.blk [.obj mem.length, .v (.int .i64 s.err)], true⟩).set j ⟨.dead, true⟩ ++ [⟨.us (.rr s), true⟩]
theorem rdAt_is {w : World} {e : Env} {mem : Mem (Th ξ)} (hM : MemOk W0 G (thI J) w e mem) {i j : Nat} {s : RS} {e0 : Int} (h : rdAt mem i = some (j, s, e0)) (he : e0 = s.err) {u : Value} (hu : e[i]? = some u) :
    ∃ b o uj, u = .pointer (some ⟨b, o, none⟩) ∧ e[j]? = some uj ∧ RRc w (fun k => uj.ownBlock = some k) o b ((bitsAll s.l).drop s.at') s.err ∧ (∀ k, uj.ownBlock = some k → k < w.heap.size) ∧ s.l.length ≤ 100000 ∧ s.at' ≤ 8 * s.l.length ∧
      ∀ w' s', RRc w' (fun k => uj.ownBlock = some k) o b ((bitsAll s'.l).drop s'.at') s'.err → Mod (fun k => k = b) w w' → s'.l.length ≤ 100000 → s'.at' ≤ 8 * s'.l.length →
        ∃ x, MemOk W0 G (thI J) w' (e ++ [x]) (rdTo mem i j s') := by
  unfold rdAt at h
  split at h
  · rename_i j' pe hmi
    split at h
    · rename_i s0 e1 hmj hpe
      simp only [Option.some.injEq, Prod.mk.injEq] at h
      obtain ⟨rfl, rfl, rfl⟩ := h
      subst he
      obtain ⟨b, o, rfl, hc⟩ := hM.holds i u _ hu hmi
      obtain ⟨x0, c0, hx0, f0⟩ := hc 0 _ rfl
      obtain ⟨x1, c1, hx1, f1⟩ := hc 1 _ rfl
      have hx1 := valP_is hpe hx1
      subst hx1
      have hx0 : e[j']? = some x0 := hx0
      obtain ⟨hb, hown, hl, ha⟩ := hM.holds j' x0 _ hx0 hmj
      have hij : i ≠ j' := fun h => by subst h; rw [hmi] at hmj; cases hmj
      have hne : ∀ k, x0.ownBlock = some k → k ≠ b := fun k hk hkb => by
        subst hkb
        exact hM.sep i j' _ _ _ _ hu hmi rfl hx0 hmj hij k ⟨k, o, rfl, rfl⟩ hk
      obtain ⟨_, ao, cap, rfl, _⟩ := id hb
      refine ⟨b, o, _, rfl, hx0, ⟨ao, cap, ?_, ⟨c1, f0 rfl, f1 rfl⟩, ?_, fun k hk => ?_⟩, hown, hl, ha, fun w' s' hR hm hl' ha' => ?_⟩
      · rw [bbs_length] at c0; exact c0
      · rw [bbs_length] at hb; exact hb
      · have hk' : (Value.slice ao (bbs ((bitsAll s0.l).drop s0.at')).length cap).ownBlock = some k := by rw [ownBlock_slice] at hk ⊢; exact hk
        exact ⟨hne k hk', hk'⟩
      · obtain ⟨ao', cap', d0, ⟨d1, g0, g1⟩, hB, hO⟩ := hR
        have hsz : e.length = mem.length := hM.len
        refine ⟨.slice ao' ((bitsAll s'.l).drop s'.at').length cap', hM.swap hij hu hmi hx0 hmj (nx := .us (.rr s')) (Mod.trans (G := fun k => k = b) (Mod.refl _ w) hm fun k hk _ => ⟨b, o, rfl, hk⟩) ?_ (fun k hk => hk) ⟨hB, fun k hk => ?_, hl', ha'⟩ (fun k hk => (hO k hk).2)⟩
        · refine ⟨b, o, rfl, fun t p hp => ?_⟩
          match t, hp with
          | 0, hp =>
            simp at hp; subst hp
            refine ⟨_, d0, ?_, fun _ => g0⟩
            show (e ++ [_])[mem.length]? = _
            rw [← hsz, List.getElem?_append_right (Nat.le_refl _)]; simp
          | 1, hp =>
            simp at hp; subst hp
            exact ⟨_, d1, rfl, fun _ => g1⟩
          | t + 2, hp => simp at hp
        · exact Nat.lt_of_lt_of_le (hown k (hO k hk).2) hm.size
    · cases h
  · cases h
/-- The next bits. -/
def F_rget2 : Nat × Fn2 (Th ξ) := (63, fun us mem => match us with
  | [.one (.ptr i 0), .one nv] => (match rdAt mem i, valP nv with
    | some (j, s, e0), some (.int .i64 n) => some ([e0 = s.err], .c (.one (.v (.int .u64 (s.num n : Int)))), some (rdTo mem i j (s.get n)))
    | _, _ => none)
  | _ => none)
theorem F_rget2_ok (ht : FnsOk Try.prog (thI J) W0 G F) : FnsOk Try.prog (thI J) W0 G (F_rget2 :: F) :=
  FnsOk.cons Try.call63 (fun args mem ps r mo hr hp w e us hM ha => by
    split at hr
    · rename_i i nv
      split at hr
      · rename_i j s e0 n hrd hn
        simp only [Option.some.injEq, Prod.mk.injEq] at hr
        obtain ⟨rfl, rfl, rfl⟩ := hr
        obtain ⟨u0, u1, rfl, a0, a1⟩ := allC2 ha
        obtain ⟨b0, o0, q1, q2⟩ := is_one a0
        have hn := valP_is hn (is_one a1)
        subst hn
        obtain ⟨b, o, uj, p1, p2, hR, _, hl, hat, hto⟩ := rdAt_is hM hrd (hp _ (List.mem_cons_self ..)) q1
        cases p1
        subst q2
        refine (rcgetS s b0 o0 _ n w hR hl hat).mono fun x w' ⟨g1, g2, g3⟩ => ?_
        obtain ⟨x', hM'⟩ := hto w' (s.get n) g2 g3 hl (RS.at_get hat n)
        exact ⟨_, g1, _, Grows.push e x', rfl, hM'⟩
      · cases hr
    · cases hr) ht
/-- The next text. -/
def F_rtext2 : Nat × Fn2 (Th ξ) := (64, fun us mem => match us with
  | [.one (.ptr i 0)] => (match rdAt mem i with
    | some (j, s, e0) => some ([e0 = s.err], .c (.one (.v (.string s.txt))), some (rdTo mem i j s.aft))
    | _ => none)
  | _ => none)
theorem F_rtext2_ok (ht : FnsOk Try.prog (thI J) W0 G F) : FnsOk Try.prog (thI J) W0 G (F_rtext2 :: F) :=
  FnsOk.cons Try.call64 (fun args mem ps r mo hr hp w e us hM ha => by
    split at hr
    · rename_i i
      split at hr
      · rename_i j s e0 hrd
        simp only [Option.some.injEq, Prod.mk.injEq] at hr
        obtain ⟨rfl, rfl, rfl⟩ := hr
        obtain ⟨u0, rfl, a0⟩ := allC1 ha
        obtain ⟨b0, o0, q1, q2⟩ := is_one a0
        obtain ⟨b, o, uj, p1, p2, hR, hlt, hl, hat, hto⟩ := rdAt_is hM hrd (hp _ (List.mem_cons_self ..)) q1
        cases p1
        subst q2
        refine (rctextS s b0 o0 _ w hlt hR hl hat).mono fun x w' ⟨g1, g2, g3⟩ => ?_
        have ha2 := RS.at_aft hat
        obtain ⟨x', hM'⟩ := hto w' s.aft g2 g3 (by rw [ha2.2]; exact hl) ha2.1
        exact ⟨_, g1, _, Grows.push e x', rfl, hM'⟩
      · cases hr
    · cases hr) ht
end
end Go.Proofs.Ytophabekaicdeaa
