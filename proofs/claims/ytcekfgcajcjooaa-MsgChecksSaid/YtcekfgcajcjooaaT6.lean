/- A symbolic run, wider: a whole function. No program in sight. -/
import Derived.Test.YtcekfgcajcjooaaT5
import Derived.LoopN
set_option linter.unusedVariables false
set_option linter.unusedSimpArgs false
namespace Go.Proofs.Ytcekfgcajcjooaa
open Go.RowKit

section
variable {β : Type} {S : Sy β} {I : ObI β} {W0 : World} {G : Nat → Prop} {L : Lps β} {sz : Nat}

theorem recDst_baseGet (all : List SRec) (base : List (Nat × SV)) (t : Nat) : ∀ rs : List SRec, baseGet t (flush all rs base) = (match recDst t rs with | some r => some (flushV all r) | none => baseGet t base)
  | [] => rfl
  | r :: rs => by
    have ih := recDst_baseGet all base t rs
    simp only [flush]
    cases hd : r.dst with
    | none =>
      simp only [recDst, hd, dstIs]
      exact ih
    | some u =>
      simp only [recDst, hd, dstIs, baseGet]
      cases eqb u t with
      | true => rfl
      | false => exact ih
theorem flush_ok {recs : List SRec} {base : List (Nat × SV)} {e : Env} {a : Act} (h : FrOk recs base e a sz) : FrOk [] (flush recs recs base) e a sz := by
  refine ⟨h.defers, h.size, fun t => ?_⟩
  have hs := h.slot t
  simp only [SlotIs] at hs
  simp only [SlotIs, recDst, recDst_baseGet]
  cases hr : recDst t recs with
  | none => rw [hr] at hs; exact hs
  | some r =>
    rw [hr] at hs
    simp only at hs ⊢
    unfold flushV
    split
    · rename_i hc
      exact hs.1 (by rw [hc]; rfl)
    · exact hs

/-- The slots that a code writes. -/
def writesC : Code → List Nat
  | .region _ ops _ => ops.toList.filterMap (·.dst)
  | .seq x y => writesC x ++ writesC y
  | .cond _ x y => writesC x ++ writesC y
  | .block _ c => writesC c
  | .loop c => writesC c
  | _ => []
def loopsC : Code → List Code
  | .seq x y => loopsC x ++ loopsC y
  | .cond _ x y => loopsC x ++ loopsC y
  | .block _ c => loopsC c
  | .loop c => c :: loopsC c
  | _ => []
/-- A state behind another one. -/
structure After (W : Nat → Prop) (s s' : SSt β) : Prop where
  suf : ∃ pre, s'.base = pre ++ s.base ∧ ∀ p ∈ pre, W p.1
  le : s.ver ≤ s'.ver
  same : s'.ver = s.ver → s'.mem = s.mem
theorem After.refl (W : Nat → Prop) (s : SSt β) : After W s s := ⟨⟨[], rfl, fun p hp => by cases hp⟩, Nat.le_refl _, fun _ => rfl⟩
theorem After.trans {W : Nat → Prop} {a b c : SSt β} (h : After W a b) (k : After W b c) : After W a c := by
  obtain ⟨p, hp, hp2⟩ := h.suf
  obtain ⟨q, hq, hq2⟩ := k.suf
  refine ⟨⟨q ++ p, by rw [hq, hp, List.append_assoc], fun x hx => ?_⟩, Nat.le_trans h.le k.le, fun hv => ?_⟩
  · rcases List.mem_append.1 hx with hx | hx
    · exact hq2 x hx
    · exact hp2 x hx
  · have h1 := h.le; have h2 := k.le
    rw [k.same (by omega), h.same (by omega)]
theorem After.mono {W W' : Nat → Prop} {a b : SSt β} (h : After W a b) (hw : ∀ t, W t → W' t) : After W' a b := by
  obtain ⟨p, hp, hp2⟩ := h.suf
  exact ⟨⟨p, hp, fun x hx => hw _ (hp2 x hx)⟩, h.le, h.same⟩
def Tr.all (R : SSt β → Prop) : Tr β → Prop
  | .leaf _ s => R s
  | .br _ t e => t.all R ∧ e.all R
  | .need _ t => t.all R
  | .fail => True
theorem Tr.all_mono {R R' : SSt β → Prop} (h : ∀ s, R s → R' s) : ∀ {t : Tr β}, t.all R → t.all R'
  | .leaf _ _, k => h _ k
  | .br _ _ _, k => ⟨all_mono h k.1, all_mono h k.2⟩
  | .need _ t, k => all_mono (t := t) h k
  | .fail, _ => trivial
theorem Tr.all_bind {R : SSt β → Prop} {f : SSt β → Tr β} (hf : ∀ s, R s → (f s).all R) : ∀ {t : Tr β}, t.all R → (t.bind f).all R
  | .leaf .normal s, h => hf s h
  | .leaf (.exit _) _, h => h
  | .leaf .ret _, h => h
  | .br _ _ _, h => ⟨all_bind hf h.1, all_bind hf h.2⟩
  | .need _ t, h => all_bind (t := t) hf h
  | .fail, h => h
theorem Tr.all_unblock {R : SSt β → Prop} {id : Nat} : ∀ {t : Tr β}, t.all R → (t.unblock id).all R
  | .leaf .normal _, h => h
  | .leaf (.exit i) s, h => by
    simp only [Tr.unblock]
    split <;> exact h
  | .leaf .ret _, h => h
  | .br _ _ _, h => ⟨all_unblock h.1, all_unblock h.2⟩
  | .need _ t, h => all_unblock (t := t) h
  | .fail, h => h
def Tr.holds (K : SX → SSt β → Prop) : Tr β → Prop
  | .leaf x s => K x s
  | .br b t e => (b = true → t.holds K) ∧ (b = false → e.holds K)
  | .need ps t => (∀ p ∈ ps, p) ∧ t.holds K
  | .fail => False
theorem Tr.holds_mono {K K' : SX → SSt β → Prop} (hk : ∀ x s, K x s → K' x s) : ∀ {t : Tr β}, t.holds K → t.holds K'
  | .leaf _ _, h => hk _ _ h
  | .br _ _ _, h => ⟨fun hb => holds_mono hk (h.1 hb), fun hb => holds_mono hk (h.2 hb)⟩
  | .need _ _, h => ⟨h.1, holds_mono hk h.2⟩
  | .fail, h => h
theorem Tr.holds_all {K : SX → SSt β → Prop} {R : SSt β → Prop} : ∀ {t : Tr β}, t.holds K → t.all R → t.holds fun x s => K x s ∧ R s
  | .leaf _ _, h, k => ⟨h, k⟩
  | .br _ _ _, h, k => ⟨fun hb => holds_all (h.1 hb) k.1, fun hb => holds_all (h.2 hb) k.2⟩
  | .need _ t, h, k => ⟨h.1, holds_all (t := t) h.2 k⟩
  | .fail, h, _ => h
theorem Tr.holds_bind {K : SX → SSt β → Prop} {f : SSt β → Tr β} : ∀ {t : Tr β}, (t.bind f).holds K → t.holds fun x s => match x with | .normal => (f s).holds K | x => K x s
  | .leaf .normal _, h => h
  | .leaf (.exit _) _, h => h
  | .leaf .ret _, h => h
  | .br _ _ _, h => ⟨fun hb => holds_bind (h.1 hb), fun hb => holds_bind (h.2 hb)⟩
  | .need _ _, h => ⟨h.1, holds_bind h.2⟩
  | .fail, h => h
theorem Tr.holds_unblock {K : SX → SSt β → Prop} {id : Nat} : ∀ {t : Tr β}, (t.unblock id).holds K → t.holds fun x s => match x with | .exit i => if i = id then K .normal s else K (.exit i) s | x => K x s
  | .leaf .normal _, h => h
  | .leaf (.exit i) s, h => by
    simp only [Tr.unblock] at h
    simp only [Tr.holds]
    split at h
    · rename_i he; rw [if_pos (eqb_eq.1 he)]; exact h
    · rename_i he
      rw [if_neg (fun e => by rw [eqb_eq.2 e] at he; cases he)]; exact h
  | .leaf .ret _, h => h
  | .br _ _ _, h => ⟨fun hb => holds_unblock (h.1 hb), fun hb => holds_unblock (h.2 hb)⟩
  | .need _ _, h => ⟨h.1, holds_unblock h.2⟩
  | .fail, h => h
def SX.exit' : SX → Exit
  | .normal => .normal
  | .exit id => .exit id
  | .ret => .ret

/-- What is known of a loop. -/
def LoopSound (S : Sy β) (I : ObI β) (W0 : World) (G : Nat → Prop) (sz : Nat) (c : Code) (g : SSt β → Option (Tr β)) : Prop := ∀ s t, g s = some t →
  t.all (After (· ∈ writesC c) s) ∧ ∀ K, t.holds K → ∀ (Q : Exit → Act → World → Prop) a w e, FrOk [] s.base e a sz → MemOk W0 G I w e s.mem →
    (∀ x s' e' a' w', Grows e e' → K x s' → FrOk [] s'.base e' a' sz → MemOk W0 G I w' e' s'.mem → Q x.exit' a' w') → (Code.loop c).wp S.P Q a w
def LpsOk (S : Sy β) (I : ObI β) (W0 : World) (G : Nat → Prop) (L : Lps β) (sz : Nat) (c0 : Code) : Prop := ∀ c ∈ loopsC c0, ∀ g, lpGet (idC c) L = some g → LoopSound S I W0 G sz c g
theorem LpsOk.nil (c : Code) : LpsOk S I W0 G [] sz c := fun _ _ g h => by cases h

theorem regT_sound (hS : SyOk S I W0 G) {id n : Nat} {l : List Oper} {d : Bool} {s : SSt β} {K : SX → SSt β → Prop} {Q : Exit → Act → World → Prop} {a : Act} {w : World} {e : Env}
    (h : (regT S sz n l s).holds K) (hB : d = true → RgSpec l n) (hf : FrOk [] s.base e a sz) (hM : MemOk W0 G I w e s.mem)
    (hQ : ∀ s' e' a' w', Grows e e' → K .normal s' → FrOk [] s'.base e' a' sz → MemOk W0 G I w' e' s'.mem → Q .normal a' w') : (Code.region id l.toArray d).wp S.P Q a w := by
  have go : ∀ recs mem ver ps, runOps S s.base n sz l 0 [] s.mem s.ver [] = some (recs, mem, ver, ps) → (∀ p ∈ ps, p) → K .normal ⟨flush recs recs s.base, mem, ver⟩ → (Code.region id l.toArray d).wp S.P Q a w := fun recs mem ver ps hr hps hK => by
    have hend : ∀ e' a' w', Grows e e' → FrOk recs s.base e' a' sz → MemOk W0 G I w' e' mem → Q .normal a' w' := fun e' a' w' hg hf' hM' => hQ ⟨flush recs recs s.base, mem, ver⟩ e' a' w' hg hK (flush_ok hf') hM'
    cases d with
    | true => exact region_drawn hS (hB rfl) hr hf hM hps hend
    | false =>
      refine wp_region_lit ?_
      exact runOps_seq (l := l) hS l 0 [] s.mem s.ver [] hr (fun j o hj => by rw [Nat.zero_add]; exact hj) (RInv.nil l) hf hM hps hend
  unfold regT at h
  split at h
  · rename_i recs mem ver hr
    exact go recs mem ver [] hr (fun p hp => by cases hp) h
  · rename_i recs mem ver ps _ hr
    exact go recs mem ver ps hr h.1 h.2
  · exact h.elim
theorem regionS_sound (hS : SyOk S I W0 G) {id : Nat} {l : List Oper} {d : Bool} {s : SSt β} {K : SX → SSt β → Prop} {Q : Exit → Act → World → Prop} {a : Act} {w : World} {e : Env}
    (h : (regionS S sz l d s).holds K) (hf : FrOk [] s.base e a sz) (hM : MemOk W0 G I w e s.mem)
    (hQ : ∀ s' e' a' w', Grows e e' → K .normal s' → FrOk [] s'.base e' a' sz → MemOk W0 G I w' e' s'.mem → Q .normal a' w') : (Code.region id l.toArray d).wp S.P Q a w := by
  unfold regionS at h
  split at h
  · exact regT_sound hS h (fun hd => by cases hd) hf hM hQ
  · split at h
    · rename_i hg
      exact regT_sound hS h (fun _ => rgF_spec hg) hf hM hQ
    · rw [forceN_eq] at h
      split at h
      · rename_i hg
        exact regT_sound hS h (fun _ => rgB_spec hg) hf hM hQ
      · exact h.elim

theorem flush_suf (all : List SRec) (base : List (Nat × SV)) : ∀ rs : List SRec, ∃ pre, flush all rs base = pre ++ base ∧ ∀ p ∈ pre, ∃ r ∈ rs, r.dst = some p.1
  | [] => ⟨[], rfl, fun p hp => by cases hp⟩
  | r :: rs => by
    obtain ⟨pre, h, hp⟩ := flush_suf all base rs
    simp only [flush]
    cases hd : r.dst with
    | none => exact ⟨pre, h, fun p hpp => by obtain ⟨r', h1, h2⟩ := hp p hpp; exact ⟨r', List.mem_cons_of_mem _ h1, h2⟩⟩
    | some t =>
      refine ⟨(t, flushV all r) :: pre, by rw [h]; rfl, fun p hpp => ?_⟩
      rcases List.mem_cons.1 hpp with rfl | hpp
      · exact ⟨r, List.mem_cons_self .., hd⟩
      · obtain ⟨r', h1, h2⟩ := hp p hpp; exact ⟨r', List.mem_cons_of_mem _ h1, h2⟩
theorem runOps_after {base : List (Nat × SV)} {pn : Nat} : ∀ (os : List Oper) (i : Nat) (recs : List SRec) (mem : Mem β) (ver : Nat) (ps : List Prop) {recs' : List SRec} {mem' : Mem β} {ver' : Nat} {ps' : List Prop}, runOps S base pn sz os i recs mem ver ps = some (recs', mem', ver', ps') →
    (∀ r ∈ recs', r ∈ recs ∨ ∃ o ∈ os, o.dst = r.dst) ∧ ver ≤ ver' ∧ (ver' = ver → mem' = mem)
  | [], i, recs, mem, ver, ps, recs', mem', ver', ps', h => by
    simp only [runOps, Option.some.injEq, Prod.mk.injEq] at h
    obtain ⟨rfl, rfl, rfl, rfl⟩ := h
    exact ⟨fun r hr => .inl hr, Nat.le_refl _, fun _ => rfl⟩
  | o :: os, i, recs, mem, ver, ps, recs', mem', ver', ps', h => by
    simp only [runOps, forceN_eq] at h
    have step : ∀ (c : List (Nat × Bool)) (sv : SV) (m2 : Mem β) (v2 : Nat) (p2 : List Prop), (v2 = ver ∧ m2 = mem ∨ v2 = ver + 1) → runOps S base pn sz os (i + 1) (⟨i, o.dst, c, sv⟩ :: recs) m2 v2 p2 = some (recs', mem', ver', ps') →
        (∀ r ∈ recs', r ∈ recs ∨ ∃ o' ∈ o :: os, o'.dst = r.dst) ∧ ver ≤ ver' ∧ (ver' = ver → mem' = mem) := fun c sv m2 v2 p2 hv h => by
      obtain ⟨h1, h2, h3⟩ := runOps_after os (i + 1) _ _ _ _ h
      refine ⟨fun r hr => ?_, by rcases hv with ⟨rfl, _⟩ | rfl <;> omega, fun hvv => ?_⟩
      · rcases h1 r hr with h | ⟨o', ho', hd⟩
        · rcases List.mem_cons.1 h with rfl | h
          · exact .inr ⟨o, List.mem_cons_self .., rfl⟩
          · exact .inl h
        · exact .inr ⟨o', List.mem_cons_of_mem _ ho', hd⟩
      · rcases hv with ⟨rfl, rfl⟩ | rfl
        · exact h3 hvv
        · omega
    split at h
    · cases h
    · split at h
      · cases h
      · exact step _ _ _ _ _ (.inl ⟨rfl, rfl⟩) h
      · split at h
        · cases h
        · exact step _ _ _ _ _ (.inl ⟨rfl, rfl⟩) h
        · exact step _ _ _ _ _ (.inr rfl) h
theorem regT_after {n : Nat} {l : List Oper} {s : SSt β} : (regT S sz n l s).all (After (· ∈ l.filterMap (·.dst)) s) := by
  have go : ∀ recs mem ver ps, runOps S s.base n sz l 0 [] s.mem s.ver [] = some (recs, mem, ver, ps) → After (· ∈ l.filterMap (·.dst)) s ⟨flush recs recs s.base, mem, ver⟩ := fun recs mem ver ps hr => by
    obtain ⟨h1, h2, h3⟩ := runOps_after l 0 _ _ _ _ hr
    obtain ⟨pre, h4, h5⟩ := flush_suf recs s.base recs
    refine ⟨⟨pre, h4, fun p hp => ?_⟩, h2, h3⟩
    obtain ⟨r, hr1, hr2⟩ := h5 p hp
    rcases h1 r hr1 with h | ⟨o, ho, hd⟩
    · cases h
    · exact List.mem_filterMap.2 ⟨o, ho, hd.trans hr2⟩
  unfold regT
  split
  · rename_i hr; exact go _ _ _ _ hr
  · rename_i hr; exact go _ _ _ _ hr
  · trivial
theorem regionS_after {l : List Oper} {d : Bool} {s : SSt β} : (regionS S sz l d s).all (After (· ∈ l.filterMap (·.dst)) s) := by
  unfold regionS
  split
  · exact regT_after
  · split
    · exact regT_after
    · rw [forceN_eq]
      split
      · exact regT_after
      · trivial
theorem mergeBase_suf (b : Bool) (b1 b2 r : List (Nat × SV)) : ∀ xs : List (Nat × SV), ∃ pre, mergeBase b b1 b2 xs r = pre ++ r ∧ ∀ p ∈ pre, ∃ x ∈ xs, x.1 = p.1
  | [] => ⟨[], rfl, fun p hp => by cases hp⟩
  | (t, x) :: xs => by
    obtain ⟨pre, h, hp⟩ := mergeBase_suf b b1 b2 r xs
    refine ⟨(t, mergeS b (baseGet t b1) (baseGet t b2)) :: pre, by simp only [mergeBase]; rw [h]; rfl, fun p hpp => ?_⟩
    rcases List.mem_cons.1 hpp with rfl | hpp
    · exact ⟨(t, x), List.mem_cons_self .., rfl⟩
    · obtain ⟨y, h1, h2⟩ := hp p hpp; exact ⟨y, List.mem_cons_of_mem _ h1, h2⟩
theorem take_pre {α : Type} {pre b : List α} : (pre ++ b).take ((pre ++ b).length - b.length) = pre := by simp
theorem joinT_after {W : Nat → Prop} {b : Bool} {s : SSt β} {t e : Tr β} (h1 : t.all (After W s)) (h2 : e.all (After W s)) : (joinT b s t e).all (After W s) := by
  unfold joinT
  split
  · rename_i s1 s2
    split
    · obtain ⟨p1, e1, q1⟩ := After.suf h1
      obtain ⟨p2, e2, q2⟩ := After.suf h2
      have t1 : s1.base.take (s1.base.length - s.base.length) = p1 := by rw [e1]; exact take_pre
      have t2 : s2.base.take (s2.base.length - s.base.length) = p2 := by rw [e2]; exact take_pre
      rw [t1, t2]
      obtain ⟨r2, g2, k2⟩ := mergeBase_suf b s1.base s2.base s.base p2
      obtain ⟨r1, g1, k1⟩ := mergeBase_suf b s1.base s2.base (mergeBase b s1.base s2.base p2 s.base) p1
      refine ⟨⟨r1 ++ r2, by simp only; rw [g1, g2, List.append_assoc], fun p hp => ?_⟩, Nat.le_refl _, fun _ => rfl⟩
      rcases List.mem_append.1 hp with hp | hp
      · obtain ⟨x, hx, he⟩ := k1 p hp; rw [← he]; exact q1 x hx
      · obtain ⟨x, hx, he⟩ := k2 p hp; rw [← he]; exact q2 x hx
    · exact ⟨h1, h2⟩
  · exact ⟨h1, h2⟩
theorem iter_after {W : Nat → Prop} {f : SSt β → Tr β} (hf : ∀ s, (f s).all (After W s)) : ∀ (n : Nat) (s : SSt β), (iter f n s).all (After W s)
  | 0, _ => trivial
  | n + 1, s => by
    simp only [iter]
    exact Tr.all_bind (fun s' hs' => Tr.all_mono (fun s2 h2 => hs'.trans h2) (iter_after hf n s')) (hf s)
theorem symC_after : ∀ (c : Code), LpsOk S I W0 G L sz c → ∀ (s : SSt β), (symC S L sz c s).all (After (· ∈ writesC c) s)
  | .skip, _, s => After.refl _ s
  | .exit _, _, s => After.refl _ s
  | .ret, _, s => After.refl _ s
  | .region _ ops d, _, s => by
    simp only [symC, writesC]
    exact regionS_after
  | .seq x y, hL, s => by
    simp only [symC, writesC]
    have hx : LpsOk S I W0 G L sz x := fun c hc => hL c (by simp only [loopsC]; exact List.mem_append_left _ hc)
    have hy : LpsOk S I W0 G L sz y := fun c hc => hL c (by simp only [loopsC]; exact List.mem_append_right _ hc)
    exact Tr.all_bind (fun s' hs' => Tr.all_mono (fun s2 h2 => hs'.trans (h2.mono fun t ht => List.mem_append_right _ ht)) (symC_after y hy s')) (Tr.all_mono (fun s2 h2 => h2.mono fun t ht => List.mem_append_left _ ht) (symC_after x hx s))
  | .cond c x y, hL, s => by
    simp only [symC, writesC]
    have hx : LpsOk S I W0 G L sz x := fun c hc => hL c (by simp only [loopsC]; exact List.mem_append_left _ hc)
    have hy : LpsOk S I W0 G L sz y := fun c hc => hL c (by simp only [loopsC]; exact List.mem_append_right _ hc)
    have h1 := Tr.all_mono (fun s2 h2 => After.mono (W' := (· ∈ writesC x ++ writesC y)) h2 fun t ht => List.mem_append_left _ ht) (symC_after x hx s)
    have h2 := Tr.all_mono (fun s2 h2 => After.mono (W' := (· ∈ writesC x ++ writesC y)) h2 fun t ht => List.mem_append_right _ ht) (symC_after y hy s)
    split
    · exact h1
    · exact h2
    · exact joinT_after h1 h2
    · trivial
  | .block id c, hL, s => by
    simp only [symC, writesC]
    exact Tr.all_unblock (symC_after c (fun c' hc => hL c' hc) s)
  | .loop c, hL, s => by
    simp only [symC, writesC]
    split
    · rename_i g hg
      split
      · rename_i t ht
        exact (hL c (by simp only [loopsC]; exact List.mem_cons_self ..) g hg s t ht).1
      · trivial
    · exact iter_after (fun s => symC_after c (fun c' hc => hL c' (by simp only [loopsC]; exact List.mem_cons_of_mem _ hc)) s) _ s
  | .rangeFunc _ _ _ _, _, s => trivial
  | .scope _, _, s => trivial
  | .label _, _, s => trivial
  | .goto _, _, s => trivial
  | .refuse _, _, s => trivial

theorem mergeV_is {b : Bool} {x y z : Value} (h : mergeV b x y = some z) : z = cond b x y := by
  unfold mergeV at h
  split at h
  · simp only [Option.some.injEq] at h; subst h; cases b <;> rfl
  · split at h
    · rename_i hk
      simp only [eqK, decide_eq_true_eq] at hk
      simp only [Option.some.injEq] at h; subst h; subst hk; cases b <;> rfl
    · cases h
  · simp only [Option.some.injEq] at h; subst h; cases b <;> rfl
  · simp only [Option.some.injEq] at h; subst h; cases b <;> rfl
  · cases h
theorem mergeP_is {e : Env} {b : Bool} {x y : PV} {u : Value} (h : (cond b x y).is e u) : (mergeP b x y).is e u := by
  unfold mergeP
  split
  · split
    · rename_i he
      rw [Bool.and_eq_true] at he
      have h1 := eqb_eq.1 he.1
      have h2 := eqb_eq.1 he.2
      subst h1; subst h2
      cases b <;> exact h
    · trivial
  · split
    · rename_i he
      have h1 := eqb_eq.1 he
      subst h1
      cases b <;> exact h
    · trivial
  · split
    · rename_i u1 u2 h1 h2
      split
      · rename_i z hz
        have := mergeV_is hz
        show u = z
        rw [this]
        cases b with
        | true => exact valP_is h1 h
        | false => exact valP_is h2 h
      · trivial
    · trivial
theorem mergeCells_is {e : Env} {b : Bool} : ∀ {xs ys zs : List PV} {us : List Value}, mergeCells b xs ys = some zs → AllIs e (cond b xs ys) us → AllIs e zs us
  | [], [], zs, us, h, hu => by simp only [mergeCells, Option.some.injEq] at h; subst h; cases b <;> exact hu
  | x :: xs, y :: ys, zs, us, h, hu => by
    simp only [mergeCells] at h
    split at h
    · rename_i ws hw
      simp only [Option.some.injEq] at h
      subst h
      cases us with
      | nil => cases b <;> exact hu.elim
      | cons u us =>
        cases b with
        | true => exact ⟨mergeP_is (b := true) hu.1, mergeCells_is (b := true) hw hu.2⟩
        | false => exact ⟨mergeP_is (b := false) hu.1, mergeCells_is (b := false) hw hu.2⟩
    · cases h
  | [], _ :: _, _, _, h, _ => by simp [mergeCells] at h
  | _ :: _, [], _, _, h, _ => by simp [mergeCells] at h
theorem mergeS_is {e : Env} {b : Bool} {x y : Option SV} {u : Value} (h : ∀ z, cond b x y = some z → z.is e u) : (mergeS b x y).is e u := by
  unfold mergeS
  split
  · refine mergeP_is (b := b) ?_
    cases b with
    | true => exact h _ rfl
    | false => exact h _ rfl
  · split
    · rename_i xs ys z hz
      cases b with
      | true =>
        obtain ⟨us, h1, h2⟩ := h _ rfl
        exact ⟨us, mergeCells_is (b := true) hz h1, h2⟩
      | false =>
        obtain ⟨us, h1, h2⟩ := h _ rfl
        exact ⟨us, mergeCells_is (b := false) hz h1, h2⟩
    · trivial
  · trivial
theorem mergeBase_get {b : Bool} {b1 b2 : List (Nat × SV)} {r : List (Nat × SV)} (t : Nat) : ∀ xs : List (Nat × SV), baseGet t (mergeBase b b1 b2 xs r) = some (mergeS b (baseGet t b1) (baseGet t b2)) ∨ (baseGet t xs = none ∧ baseGet t (mergeBase b b1 b2 xs r) = baseGet t r)
  | [] => .inr ⟨rfl, rfl⟩
  | (u, x) :: xs => by
    simp only [mergeBase, baseGet]
    cases he : eqb u t with
    | true => rw [eqb_eq.1 he]; exact .inl rfl
    | false => exact mergeBase_get t xs
theorem baseGet_append {t : Nat} {r : List (Nat × SV)} : ∀ {pre : List (Nat × SV)}, baseGet t pre = none → baseGet t (pre ++ r) = baseGet t r
  | [], _ => rfl
  | (u, x) :: pre, h => by
    simp only [baseGet] at h
    rw [List.cons_append]
    simp only [baseGet]
    split at h
    · cases h
    · exact baseGet_append h
theorem merge_frame {b : Bool} {s0 s1 s2 : SSt β} (h1 : ∃ pre, s1.base = pre ++ s0.base) (h2 : ∃ pre, s2.base = pre ++ s0.base) {e : Env} {a : Act} (hf : FrOk [] (cond b s1 s2).base e a sz) :
    FrOk [] (mergeBase b s1.base s2.base (s1.base.take (s1.base.length - s0.base.length)) (mergeBase b s1.base s2.base (s2.base.take (s2.base.length - s0.base.length)) s0.base)) e a sz := by
  refine ⟨hf.defers, hf.size, fun t => ?_⟩
  have hs := hf.slot t
  simp only [SlotIs, recDst] at hs ⊢
  obtain ⟨p1, e1⟩ := h1
  obtain ⟨p2, e2⟩ := h2
  have t1 : s1.base.take (s1.base.length - s0.base.length) = p1 := by rw [e1]; exact take_pre
  have t2 : s2.base.take (s2.base.length - s0.base.length) = p2 := by rw [e2]; exact take_pre
  have hmerged : (mergeS b (baseGet t s1.base) (baseGet t s2.base)).is e (a.tmps.getD t undef) := mergeS_is fun z hz => by
    cases b with
    | true => simp only [cond] at hz hs; rw [hz] at hs; exact hs
    | false => simp only [cond] at hz hs; rw [hz] at hs; exact hs
  rw [t1, t2]
  rcases mergeBase_get (b := b) (b1 := s1.base) (b2 := s2.base) (r := mergeBase b s1.base s2.base p2 s0.base) t p1 with g | ⟨g1, g⟩
  · rw [g]; exact hmerged
  · rw [g]
    rcases mergeBase_get (b := b) (b1 := s1.base) (b2 := s2.base) (r := s0.base) t p2 with k | ⟨k1, k⟩
    · rw [k]; exact hmerged
    · rw [k]
      have q1 : baseGet t s1.base = baseGet t s0.base := by rw [e1]; exact baseGet_append g1
      have q2 : baseGet t s2.base = baseGet t s0.base := by rw [e2]; exact baseGet_append k1
      cases b with
      | true => simp only [cond] at hs; rw [q1] at hs; exact hs
      | false => simp only [cond] at hs; rw [q2] at hs; exact hs

theorem iter_sound {c : Code} {f : SSt β → Tr β} (hf : ∀ {s : SSt β} {K : SX → SSt β → Prop} {Q : Exit → Act → World → Prop} {a : Act} {w : World} {e : Env}, (f s).holds K → FrOk [] s.base e a sz → MemOk W0 G I w e s.mem →
      (∀ x s' e' a' w', Grows e e' → K x s' → FrOk [] s'.base e' a' sz → MemOk W0 G I w' e' s'.mem → Q x.exit' a' w') → c.wp S.P Q a w) {K : SX → SSt β → Prop} {Q : Exit → Act → World → Prop} :
    ∀ (n : Nat) {s : SSt β} {a : Act} {w : World} {e : Env}, (iter f n s).holds (fun x s' => x ≠ .normal ∧ K x s') → FrOk [] s.base e a sz → MemOk W0 G I w e s.mem →
      (∀ x s' e' a' w', Grows e e' → K x s' → FrOk [] s'.base e' a' sz → MemOk W0 G I w' e' s'.mem → Q x.exit' a' w') → Code.rounds S.P c Q n a w
  | 0, s, a, w, e, h, _, _, _ => h.elim
  | n + 1, s, a, w, e, h, hF, hM, hQ => by
    rw [rounds_succ]
    simp only [iter] at h
    refine hf (Tr.holds_bind h) hF hM fun z s' e' a' w' hg hK hf' hM' => ?_
    cases z with
    | normal => exact iter_sound hf n hK hf' hM' fun z s2 e2 a2 w2 hg2 => hQ z s2 e2 a2 w2 (hg.trans hg2)
    | exit id => exact hQ (.exit id) s' e' a' w' hg hK.2 hf' hM'
    | ret => exact hQ .ret s' e' a' w' hg hK.2 hf' hM'
theorem iter_ne {f : SSt β → Tr β} {K : SX → SSt β → Prop} : ∀ (n : Nat) {s : SSt β}, (iter f n s).holds K → (iter f n s).holds fun x s' => x ≠ .normal ∧ K x s' := by
  have key : ∀ (n : Nat), (∀ s, (iter f n s).holds K → (iter f n s).holds fun x s' => x ≠ .normal ∧ K x s') → ∀ {t : Tr β}, (t.bind (iter f n)).holds K → (t.bind (iter f n)).holds fun x s' => x ≠ .normal ∧ K x s' := by
    intro n ih t
    induction t with
    | leaf x s =>
      intro h
      cases x with
      | normal => exact ih s h
      | exit id => exact ⟨by simp, h⟩
      | ret => exact ⟨by simp, h⟩
    | br b t e h1 h2 => intro h; exact ⟨fun hb => h1 (h.1 hb), fun hb => h2 (h.2 hb)⟩
    | need ps t h1 => intro h; exact ⟨h.1, h1 h.2⟩
    | fail => intro h; exact h
  intro n
  induction n with
  | zero => intro s h; exact h.elim
  | succ n ih => intro s h; simp only [iter] at h ⊢; exact key n (fun s => ih) h

theorem symC_sound (hS : SyOk S I W0 G) : ∀ (c : Code), LpsOk S I W0 G L sz c → ∀ {s : SSt β} {K : SX → SSt β → Prop} {Q : Exit → Act → World → Prop} {a : Act} {w : World} {e : Env},
    (symC S L sz c s).holds K → FrOk [] s.base e a sz → MemOk W0 G I w e s.mem →
    (∀ x s' e' a' w', Grows e e' → K x s' → FrOk [] s'.base e' a' sz → MemOk W0 G I w' e' s'.mem → Q x.exit' a' w') → c.wp S.P Q a w
  | .skip, _, s, K, Q, a, w, e, h, hf, hM, hQ => wp_skip (hQ .normal s e a w (Grows.refl e) h hf hM)
  | .exit id, _, s, K, Q, a, w, e, h, hf, hM, hQ => wp_exit (hQ (.exit id) s e a w (Grows.refl e) h hf hM)
  | .ret, _, s, K, Q, a, w, e, h, hf, hM, hQ => wp_ret (hQ .ret s e a w (Grows.refl e) h hf hM)
  | .region id ops d, _, s, K, Q, a, w, e, h, hf, hM, hQ => by
    have := regionS_sound (id := id) hS (l := ops.toList) h hf hM (fun s' e' a' w' hg hK => hQ .normal s' e' a' w' hg hK)
    simpa using this
  | .seq x y, hL, s, K, Q, a, w, e, h, hf, hM, hQ => by
    simp only [symC] at h
    refine wp_seq (symC_sound hS x (fun c hc => hL c (by simp only [loopsC]; exact List.mem_append_left _ hc)) (Tr.holds_bind h) hf hM fun z s' e' a' w' hg hK hf' hM' => ?_)
    cases z with
    | normal => exact symC_sound hS y (fun c hc => hL c (by simp only [loopsC]; exact List.mem_append_right _ hc)) hK hf' hM' fun z s2 e2 a2 w2 hg2 => hQ z s2 e2 a2 w2 (hg.trans hg2)
    | exit id => exact hQ (.exit id) s' e' a' w' hg hK hf' hM'
    | ret => exact hQ .ret s' e' a' w' hg hK hf' hM'
  | .cond c x y, hL, s, K, Q, a, w, e, h, hf, hM, hQ => by
    have hx : LpsOk S I W0 G L sz x := fun c hc => hL c (by simp only [loopsC]; exact List.mem_append_left _ hc)
    have hy : LpsOk S I W0 G L sz y := fun c hc => hL c (by simp only [loopsC]; exact List.mem_append_right _ hc)
    simp only [symC] at h
    split at h
    · rename_i hb
      have hc : a.eval c = .bool true := lookS_is hb rfl (hf.op c)
      exact wp_cond_true hc (symC_sound hS x hx h hf hM hQ)
    · rename_i hb
      have hc : a.eval c = .bool false := lookS_is hb rfl (hf.op c)
      exact wp_cond_false hc (symC_sound hS y hy h hf hM hQ)
    · rename_i b hb
      have hc : a.eval c = .bool b := lookS_is hb rfl (hf.op c)
      have hb1 : (Tr.br b (symC S L sz x s) (symC S L sz y s)).holds K → (Code.cond c x y).wp S.P Q a w := fun h =>
        wp_cond_split hc (fun ht => symC_sound hS x hx (h.1 ht) hf hM hQ) (fun ht => symC_sound hS y hy (h.2 ht) hf hM hQ)
      have sx := symC_after x hx s
      have sy := symC_after y hy s
      unfold joinT at h
      split at h
      · rename_i s1 s2 e1 e2
        rw [e1] at sx
        rw [e2] at sy
        have sx : After (· ∈ writesC x) s s1 := sx
        have sy : After (· ∈ writesC y) s s2 := sy
        have hs1 : ∃ pre, s1.base = pre ++ s.base := by obtain ⟨p, hp, _⟩ := sx.suf; exact ⟨p, hp⟩
        have hs2 : ∃ pre, s2.base = pre ++ s.base := by obtain ⟨p, hp, _⟩ := sy.suf; exact ⟨p, hp⟩
        split at h
        · rename_i hv
          rw [Bool.and_eq_true] at hv
          have m1 := sx.same (eqb_eq.1 hv.1)
          have m2 := sy.same (eqb_eq.1 hv.2)
          refine wp_cond_split hc (fun ht => ?_) (fun ht => ?_)
          · refine symC_sound hS x hx (K := fun z s' => z = .normal ∧ s' = s1) (by rw [e1]; exact ⟨rfl, rfl⟩) hf hM fun z s' e' a' w' hg hk hf' hM' => ?_
            obtain ⟨rfl, rfl⟩ := hk
            subst ht
            exact hQ .normal _ e' a' w' hg h (merge_frame (b := true) hs1 hs2 hf') (by rw [m1] at hM'; exact hM')
          · refine symC_sound hS y hy (K := fun z s' => z = .normal ∧ s' = s2) (by rw [e2]; exact ⟨rfl, rfl⟩) hf hM fun z s' e' a' w' hg hk hf' hM' => ?_
            obtain ⟨rfl, rfl⟩ := hk
            subst ht
            exact hQ .normal _ e' a' w' hg h (merge_frame (b := false) hs1 hs2 hf') (by rw [m2] at hM'; exact hM')
        · exact hb1 h
      · exact hb1 h
    · exact h.elim
  | .block id c, hL, s, K, Q, a, w, e, h, hf, hM, hQ => by
    simp only [symC] at h
    refine wp_block (symC_sound hS c (fun c' hc => hL c' hc) (Tr.holds_unblock h) hf hM fun z s' e' a' w' hg hK hf' hM' => ?_)
    cases z with
    | normal => exact hQ .normal s' e' a' w' hg hK hf' hM'
    | ret => exact hQ .ret s' e' a' w' hg hK hf' hM'
    | exit i =>
      simp only [SX.exit', Exit.inBlock]
      simp only at hK
      split at hK
      · rename_i he
        rw [if_pos he]
        exact hQ .normal s' e' a' w' hg hK hf' hM'
      · rename_i he
        rw [if_neg he]
        exact hQ (.exit i) s' e' a' w' hg hK hf' hM'
  | .loop c, hL, s, K, Q, a, w, e, h, hf, hM, hQ => by
    simp only [symC] at h
    split at h
    · rename_i g hg
      split at h
      · rename_i t ht
        exact (hL c (by simp only [loopsC]; exact List.mem_cons_self ..) g hg s t ht).2 K h Q a w e hf hM hQ
      · exact h.elim
    · refine wp_loop_rounds S.fuel (iter_sound (fun {s K Q a w e} h hf hM hQ => symC_sound hS c (fun c' hc => hL c' (by simp only [loopsC]; exact List.mem_cons_of_mem _ hc)) h hf hM hQ) S.fuel (iter_ne S.fuel h) hf hM hQ)
  | .rangeFunc _ _ _ _, _, s, K, Q, a, w, e, h, _, _, _ => by simp only [symC] at h; exact h.elim
  | .scope _, _, s, K, Q, a, w, e, h, _, _, _ => by simp only [symC] at h; exact h.elim
  | .label _, _, s, K, Q, a, w, e, h, _, _, _ => by simp only [symC] at h; exact h.elim
  | .goto _, _, s, K, Q, a, w, e, h, _, _, _ => by simp only [symC] at h; exact h.elim
  | .refuse _, _, s, K, Q, a, w, e, h, _, _, _ => by simp only [symC] at h; exact h.elim
end
end Go.Proofs.Ytcekfgcajcjooaa
