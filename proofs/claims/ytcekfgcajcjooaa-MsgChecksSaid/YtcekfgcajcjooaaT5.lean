/- A symbolic run, wider: a row of operations whose order is drawn. No program in sight. -/
import Derived.Test.YtcekfgcajcjooaaT4
set_option linter.unusedVariables false
set_option linter.unusedSimpArgs false
namespace Go.Proofs.Ytcekfgcajcjooaa
open Go.RowKit

section
variable {β : Type} {S : Sy β} {I : ObI β} {W0 : World} {G : Nat → Prop} {base : List (Nat × SV)} {l : List Oper} {n pn sz : Nat}

theorem runOps_split : ∀ (xs ys : List Oper) (i : Nat) (recs : List SRec) (mem : Mem β) (ver : Nat) (ps : List Prop), runOps S base pn sz (xs ++ ys) i recs mem ver ps =
    (match runOps S base pn sz xs i recs mem ver ps with | none => none | some (r, b, v, p) => runOps S base pn sz ys (i + xs.length) r b v p)
  | [], ys, i, recs, mem, ver, ps => by simp [runOps]
  | o :: xs, ys, i, recs, mem, ver, ps => by
    simp only [List.cons_append, runOps, forceN_eq, List.length_cons]
    rw [show i + (xs.length + 1) = i + 1 + xs.length by omega]
    split
    · rfl
    · split
      · rfl
      · exact runOps_split xs ys _ _ _ _ _
      · split
        · rfl
        · exact runOps_split xs ys _ _ _ _ _
        · exact runOps_split xs ys _ _ _ _ _

/-- What is known behind each operation that turns no memory. -/
def Step (S : Sy β) (base : List (Nat × SV)) (l : List Oper) (recsN : List SRec) (mem : Mem β) (ps' : List Prop) (sz i : Nat) (o : Oper) : Prop :=
  ∃ recs co c sv qs newer, RInv l recs i ∧ ctxOf recs o.guard = some co ∧ (∀ x ∈ c, x.1 < i) ∧ ((co = none ∧ c = [] ∧ sv = svV undef) ∨ (co = some c ∧ evalOp S recs base mem c false o = some (sv, none, qs))) ∧ (∀ q ∈ askP recs c qs, q ∈ ps') ∧ recsN = newer ++ (⟨i, o.dst, c, sv⟩ :: recs) ∧ (∀ r ∈ newer, i < r.ix) ∧ ∀ t, o.dst = some t → t < sz

theorem runOps_head : ∀ (xs : List Oper) (i : Nat) (recs : List SRec) (mem : Mem β) (ver : Nat) (ps : List Prop) {recsN : List SRec} {mem' : Mem β} {ver' : Nat} {ps' : List Prop}, runOps S base n sz xs i recs mem ver ps = some (recsN, mem', ver', ps') → i + xs.length ≤ n → RInv l recs i →
    (∀ (j : Nat) (o : Oper), xs[j]? = some o → l[i + j]? = some o) → mem' = mem ∧ RInv l recsN (i + xs.length) ∧ (∃ newer, recsN = newer ++ recs ∧ ∀ r ∈ newer, i ≤ r.ix) ∧ ∀ (j : Nat) (o : Oper), xs[j]? = some o → Step S base l recsN mem ps' sz (i + j) o
  | [], i, recs, mem, ver, ps, recsN, mem', ver', ps', h, _, hI, _ => by
    simp only [runOps, Option.some.injEq, Prod.mk.injEq] at h
    obtain ⟨rfl, rfl, rfl, rfl⟩ := h
    exact ⟨rfl, hI, ⟨[], rfl, (fun r hr => by cases hr)⟩, fun j o ho => by simp at ho⟩
  | o :: xs, i, recs, mem, ver, ps, recsN, mem', ver', ps', h, hn, hI, hl => by
    simp only [List.length_cons] at hn
    simp only [runOps, forceN_eq] at h
    split at h
    · cases h
    · rename_i hd
      have hd := dst_le hd
      have ho : l[i]? = some o := by simpa using hl 0 o rfl
      have hl' : ∀ (j : Nat) (o' : Oper), xs[j]? = some o' → l[i + 1 + j]? = some o' := fun j o' hj => by
        have := hl (j + 1) o' (by simpa using hj)
        rwa [show i + (j + 1) = i + 1 + j by omega] at this
      have fin : ∀ (co : Option (List (Nat × Bool))) (c : List (Nat × Bool)) (sv : SV) (qs : List Prop), (∀ x ∈ c, x.1 < i) → ctxOf recs o.guard = some co → ((co = none ∧ c = [] ∧ sv = svV undef) ∨ (co = some c ∧ evalOp S recs base mem c false o = some (sv, none, qs))) →
          runOps S base n sz xs (i + 1) (⟨i, o.dst, c, sv⟩ :: recs) mem ver (askP recs c qs ++ ps) = some (recsN, mem', ver', ps') →
          mem' = mem ∧ RInv l recsN (i + (o :: xs).length) ∧ (∃ newer, recsN = newer ++ recs ∧ ∀ r ∈ newer, i ≤ r.ix) ∧ ∀ (j : Nat) (o' : Oper), (o :: xs)[j]? = some o' → Step S base l recsN mem ps' sz (i + j) o' := fun co c sv qs hlt hco hev h => by
        have hps := runOps_ps xs _ _ _ _ _ h
        obtain ⟨rfl, h1, ⟨newer, h2, h3⟩, h4⟩ := runOps_head xs (i + 1) _ _ _ _ h (by omega) (hI.cons ho hlt sv) hl'
        refine ⟨rfl, by rw [List.length_cons, show i + (xs.length + 1) = i + 1 + xs.length by omega]; exact h1, ⟨newer ++ [⟨i, o.dst, c, sv⟩], by rw [h2]; simp, fun r hr => ?_⟩, fun j o' hj => ?_⟩
        · rcases List.mem_append.1 hr with hr | hr
          · have := h3 r hr; omega
          · simp at hr; subst hr; exact Nat.le_refl _
        · cases j with
          | zero =>
            simp at hj
            subst hj
            exact ⟨recs, co, c, sv, qs, newer, hI, hco, hlt, hev, fun q hq => hps q (List.mem_append_left _ hq), h2, fun r hr => by have := h3 r hr; omega, hd⟩
          | succ j =>
            have := h4 j o' (by simpa using hj)
            rwa [show i + 1 + j = i + (j + 1) by omega] at this
      split at h
      · cases h
      · rename_i hc
        exact fin none [] (svV undef) [] (fun x hx => by cases hx) hc (.inl ⟨rfl, rfl, rfl⟩) h
      · rename_i c hc
        have hlt := ctxOf_lt hI hc
        have hle : leb n i = false := by
          cases hb : leb n i with
          | false => rfl
          | true => have := leb_le.1 hb; omega
        rw [hle] at h
        split at h
        · cases h
        · rename_i sv qs hev
          exact fin (some c) c sv qs hlt hc (.inr ⟨rfl, hev⟩) h
        · rename_i sv m2 qs hev
          have := (evalOp_eff0 hev).1
          cases this

theorem sat_append {rest : List SRec} {c : List (Nat × Bool)} : ∀ (newer : List SRec), (∀ r ∈ newer, ∀ x ∈ c, x.1 < r.ix) → sat (newer ++ rest) c = sat rest c
  | [], _ => rfl
  | r :: newer, h => by
    rw [List.cons_append, sat_cons (h r (List.mem_cons_self ..))]
    exact sat_append newer fun r' hr' => h r' (List.mem_cons_of_mem _ hr')

theorem wrt_none {t : Nat} : ∀ {l : List Oper} {k : Nat} {r : Option Nat}, wrt t l k r = none → r = none ∧ ∀ o ∈ l, o.dst ≠ some t
  | [], k, r, h => ⟨h, fun o ho => by cases ho⟩
  | o :: os, k, r, h => by
    obtain ⟨h1, h2⟩ := wrt_none (l := os) h
    cases hd : o.dst with
    | none =>
      rw [hd] at h1
      exact ⟨h1, fun o' ho' => by
        rcases List.mem_cons.1 ho' with rfl | ho'
        · rw [hd]; simp
        · exact h2 o' ho'⟩
    | some u =>
      rw [hd] at h1
      simp only at h1
      split at h1
      · cases h1
      · rename_i hne
        refine ⟨h1, fun o' ho' => ?_⟩
        rcases List.mem_cons.1 ho' with rfl | ho'
        · rw [hd]
          intro e
          simp only [Option.some.injEq] at e
          subst e
          exact hne (Nat.beq_refl _)
        · exact h2 o' ho'
theorem wrt_some {t j : Nat} : ∀ {l : List Oper} {k : Nat} {r : Option Nat}, wrt t l k r = some j → r = some j ∨ ∃ (j' : Nat) (o : Oper), j = k + j' ∧ l[j']? = some o ∧ o.dst = some t
  | [], k, r, h => .inl h
  | o :: os, k, r, h => by
    rcases wrt_some (l := os) h with h1 | ⟨j', o', h1, h2, h3⟩
    · cases hd : o.dst with
      | none => rw [hd] at h1; exact .inl h1
      | some u =>
        rw [hd] at h1
        simp only at h1
        split at h1
        · rename_i he
          simp only [Option.some.injEq] at h1
          exact .inr ⟨0, o, by omega, rfl, by rw [hd, Nat.eq_of_beq_eq_true he]⟩
        · exact .inl h1
    · exact .inr ⟨j' + 1, o', by omega, by simpa using h2, h3⟩

theorem wget_some {d j : Nat} : ∀ {ws : List (Nat × Nat)}, wget d ws = some j → (d, j) ∈ ws
  | [], h => by cases h
  | (u, i) :: ws, h => by
    simp only [wget] at h
    split at h
    · rename_i he
      simp only [Option.some.injEq] at h
      rw [eqb_eq.1 he, h]; exact List.mem_cons_self ..
    · exact List.mem_cons_of_mem _ (wget_some h)
theorem wget_none {d : Nat} : ∀ {ws : List (Nat × Nat)}, wget d ws = none → ∀ j, (d, j) ∉ ws
  | [], _, j, hm => by cases hm
  | (u, i) :: ws, h, j, hm => by
    simp only [wget] at h
    split at h
    · cases h
    · rename_i he
      rcases List.mem_cons.1 hm with e | hm
      · simp only [Prod.mk.injEq] at e
        rw [eqb_eq.2 e.1.symm] at he; cases he
      · exact wget_none h j hm
theorem memN_iff {d : Nat} : ∀ {l : List Nat}, memN d l = true ↔ d ∈ l
  | [] => by simp [memN]
  | x :: l => by
    simp only [memN, Bool.or_eq_true, memN_iff (l := l), List.mem_cons, eqb_eq]
    constructor
    · rintro (h | h)
      · exact .inl h.symm
      · exact .inr h
    · rintro (h | h)
      · exact .inl h.symm
      · exact .inr h
theorem anyB_ex {α : Type} {f : α → Bool} : ∀ {l : List α}, anyB f l = true → ∃ x ∈ l, f x = true
  | [], h => by cases h
  | x :: l, h => by
    simp only [anyB, Bool.or_eq_true] at h
    rcases h with h | h
    · exact ⟨x, List.mem_cons_self .., h⟩
    · obtain ⟨y, hy, hf⟩ := anyB_ex h
      exact ⟨y, List.mem_cons_of_mem _ hy, hf⟩
/-- What holds of the operation p. -/
structure RfAt (l : List Oper) (p : Nat) (o : Oper) : Prop where
  sel : ∀ cs b, o.op ≠ .select cs b
  before : ∀ e ∈ o.after, Region.binds .any e = true → e.on < p
  bound : ∀ (j : Nat) (oj : Oper) (d : Nat), j < p → l[j]? = some oj → oj.dst = some d → d ∈ o.looksAt l.toArray → ∃ e ∈ o.after, Region.binds .any e = true ∧ e.on = j
  fresh : ∀ (d : Nat), o.dst = some d → (∀ (j : Nat) (oj : Oper), j ≤ p → l[j]? = some oj → d ∉ oj.looksAt l.toArray) ∧ ∀ (j : Nat) (oj : Oper), j < p → l[j]? = some oj → oj.dst ≠ some d
theorem rfGo_spec : ∀ (os : List Oper) (i : Nat) (ws : List (Nat × Nat)) (lk : List Nat), rfGo l.toArray os i ws lk = true → (∀ (j : Nat) (o : Oper), os[j]? = some o → l[i + j]? = some o) →
    (∀ (j : Nat) (oj : Oper) (d : Nat), j < i → l[j]? = some oj → oj.dst = some d → wget d ws = some j) → (∀ (j : Nat) (oj : Oper) (t : Nat), j < i → l[j]? = some oj → t ∈ oj.looksAt l.toArray → t ∈ lk) →
    ∀ (j : Nat) (o : Oper), os[j]? = some o → RfAt l (i + j) o
  | [], i, ws, lk, _, _, _, _, j, o, ho => by simp at ho
  | o :: os, i, ws, lk, h, hl, hw, hk, j, o', ho' => by
    simp only [rfGo, appN_eq, forceN_eq, List.append_nil, Bool.and_eq_true] at h
    obtain ⟨⟨h1, h2⟩, h3, h4⟩ := h
    have hoi : l[i]? = some o := by simpa using hl 0 o rfl
    have hl' : ∀ (j : Nat) (o' : Oper), os[j]? = some o' → l[i + 1 + j]? = some o' := fun j o' hj => by
      have := hl (j + 1) o' (by simpa using hj)
      rwa [show i + (j + 1) = i + 1 + j by omega] at this
    have hk' : ∀ (j : Nat) (oj : Oper) (t : Nat), j < i + 1 → l[j]? = some oj → t ∈ oj.looksAt l.toArray → t ∈ o.looksAt l.toArray ++ lk := fun j oj t hj hoj ht => by
      by_cases he : j = i
      · subst he; rw [hoi] at hoj; cases hoj; exact List.mem_append_left _ ht
      · exact List.mem_append_right _ (hk j oj t (by omega) hoj ht)
    have hat : (∀ d, o.dst = some d → memN d (o.looksAt l.toArray ++ lk) = false ∧ noneB (wget d ws) = true) → RfAt l i o := fun hd => by
      refine ⟨fun cs b hcs => by rw [hcs] at h1; simp [isSel] at h1, fun e he hb => ?_, fun j oj d hj hoj hd' ht => ?_, fun d hd' => ⟨fun j oj hj hoj ht => ?_, fun j oj hj hoj hdj => ?_⟩⟩
      · have := allB_mem h2 e (by simpa using he)
        rw [hb] at this
        simp only [Bool.not_true, Bool.false_or] at this
        exact leb_le.1 this
      · have := allB_mem h3 d ht
        rw [hw j oj d hj hoj hd'] at this
        obtain ⟨e, he, hf⟩ := anyB_ex this
        rw [Bool.and_eq_true] at hf
        exact ⟨e, by simpa using he, hf.1, eqb_eq.1 hf.2⟩
      · have h5 := (hd d hd').1
        have h6 := hk' j oj d (by omega) hoj ht
        rw [← memN_iff, h5] at h6
        cases h6
      · have h5 := (hd d hd').2
        rw [hw j oj d hj hoj hdj] at h5
        cases h5
    cases hd : o.dst with
    | none =>
      rw [hd] at h4
      simp only at h4
      cases j with
      | zero =>
        simp at ho'; subst ho'
        exact hat fun d hd' => by rw [hd] at hd'; cases hd'
      | succ j =>
        have := rfGo_spec os (i + 1) ws _ h4 hl' (fun j oj d hj hoj hdj => by
          by_cases he : j = i
          · subst he; rw [hoi] at hoj; cases hoj; rw [hd] at hdj; cases hdj
          · exact hw j oj d (by omega) hoj hdj) hk' j o' (by simpa using ho')
        rwa [show i + 1 + j = i + (j + 1) by omega] at this
    | some d =>
      rw [hd] at h4
      simp only [Bool.and_eq_true] at h4
      obtain ⟨⟨h5, h6⟩, h7⟩ := h4
      have h5 : memN d (o.looksAt l.toArray ++ lk) = false := by simpa using h5
      cases j with
      | zero =>
        simp at ho'; subst ho'
        exact hat fun d' hd' => by rw [hd] at hd'; cases hd'; exact ⟨h5, h6⟩
      | succ j =>
        have := rfGo_spec os (i + 1) ((d, i) :: ws) _ h7 hl' (fun j oj d' hj hoj hdj => by
          simp only [wget]
          by_cases he : j = i
          · subst he; rw [hoi] at hoj; cases hoj; rw [hd] at hdj; cases hdj; rw [eqb_eq.2 rfl]
          · have hj' := hw j oj d' (by omega) hoj hdj
            rw [eqb_ne (fun e => by
              subst e
              rw [hj'] at h6
              cases h6)]
            exact hj') hk' j o' (by simpa using ho')
        rwa [show i + 1 + j = i + (j + 1) by omega] at this
theorem rgF_spec (h : rgF l = true) : RgSpec l l.length := by
  have hat : ∀ (j : Nat) (o : Oper), l[j]? = some o → RfAt l j o := fun j o ho => by
    have := rfGo_spec l 0 [] [] h (fun j o hj => by rw [Nat.zero_add]; exact hj) (fun j oj d hj => absurd hj (by omega)) (fun j oj t hj => absurd hj (by omega)) j o ho
    rwa [Nat.zero_add] at this
  refine ⟨fun j o cs b ho => (hat j o (by simpa using ho)).sel cs b, Nat.le_refl _, .inl rfl, ?_, fun i o _ ho e he hb => (hat i o ho).before e he hb, fun i j o oj hi hj hij ho hoj d hd hdj => ?_, fun i j o oj hi hj ho hoj => ?_⟩
  · rw [Nat.sub_self]
    simp only [Region.seqB]
    cases hr : Region.ready .any l.toArray ((List.range l.length).map (fun i => decide (i < l.length))).toArray with
    | nil => rfl
    | cons i is =>
      exfalso
      have : i ∈ Region.ready .any l.toArray ((List.range l.length).map (fun i => decide (i < l.length))).toArray := by rw [hr]; exact List.mem_cons_self ..
      obtain ⟨h1, o, ho, _⟩ := mem_ready.1 this
      have hlt : i < l.length := by simpa using (Array.getElem?_eq_some_iff.1 ho).1
      simp [hlt] at h1
  · exact ((hat j oj hoj).fresh d hdj).2 i o hij ho hd
  · by_cases hij : j < i
    · by_cases hm : ∃ d, oj.dst = some d ∧ d ∈ o.looksAt l.toArray
      · obtain ⟨d, hd, ht⟩ := hm
        exact .inl ((hat i o ho).bound j oj d hij hoj hd ht)
      · exact .inr fun d hd ht => hm ⟨d, hd, ht⟩
    · exact .inr fun d hd => ((hat j oj hoj).fresh d hd).1 i o (by omega) ho

/-- What the i-th operation has left. -/
def RecV (recsN : List SRec) (e : Env) (i : Nat) (v : Value) (_ : World) : Prop := ∃ r ∈ recsN, r.ix = i ∧ (sat recsN r.ctx = true → r.sv.is e v) ∧ (sat recsN r.ctx = false → v = undef)

theorem region_drawn (hS : SyOk S I W0 G) {id : Nat} {Q : Exit → Act → World → Prop} {recs' : List SRec} {mem mem' : Mem β} {ver ver' : Nat} {ps' : List Prop} {a : Act} {w : World} {e : Env}
    (RS : RgSpec l n) (h : runOps S base n sz l 0 [] mem ver [] = some (recs', mem', ver', ps')) (hf : FrOk [] base e a sz) (hM : MemOk W0 G I w e mem) (hps : ∀ p ∈ ps', p)
    (hend : ∀ e' a' w', Grows e e' → FrOk recs' base e' a' sz → MemOk W0 G I w' e' mem' → Q .normal a' w') : (Code.region id l.toArray true).wp S.P Q a w := by
  have hle := RS.le
  have hlen : (l.take n).length = n := by simp; omega
  have hsp := runOps_split (S := S) (base := base) (pn := n) (sz := sz) (l.take n) (l.drop n) 0 [] mem ver []
  rw [List.take_append_drop, h] at hsp
  split at hsp
  · cases hsp
  · rename_i recsN memN verN psN hN
    rw [hlen, Nat.zero_add] at hsp
    have htake : ∀ (j : Nat) (o : Oper), (l.take n)[j]? = some o → l[0 + j]? = some o := fun j o hj => by
      rw [List.getElem?_take] at hj
      split at hj
      · rw [Nat.zero_add]; exact hj
      · cases hj
    obtain ⟨hbl, hIN, _, hst⟩ := runOps_head (l := l) (l.take n) 0 [] mem ver [] hN (by rw [hlen]; omega) (RInv.nil l) htake
    subst hbl
    rw [hlen, Nat.zero_add] at hIN
    have hpsN : ∀ p ∈ psN, p := fun p hp => hps p (runOps_ps (l.drop n) n recsN memN verN psN hsp.symm p hp)
    have hstep : ∀ (i : Nat) (o : Oper), i < n → l[i]? = some o → Step S base l recsN memN psN sz i o := fun i o hi ho => by
      have := hst i o (by rw [List.getElem?_take, if_pos hi]; exact ho)
      rwa [Nat.zero_add] at this
    have hdst : DstOk (l.take n) a := fun o ho u hu => by
      obtain ⟨i, hi, he⟩ := List.getElem_of_mem ho
      have h1 : (l.take n)[i]? = some o := by rw [List.getElem?_eq_getElem hi, he]
      obtain ⟨_, _, _, _, _, _, _, _, _, _, _, _, _, h2⟩ := hst i o h1
      rw [hf.size]
      exact h2 u hu
    -- what a slot holds
    have huniq : ∀ (i j : Nat) (o o' : Oper) (t : Nat), i < n → j < n → l[i]? = some o → l[j]? = some o' → o.dst = some t → o'.dst = some t → i = j := fun i j o o' t hi hj ho ho' hd hd' => by
      rcases Nat.lt_trichotomy i j with hlt | he | hlt
      · exact absurd hd' (RS.apart i j o o' hi hj hlt ho ho' t hd)
      · exact he
      · exact absurd hd (RS.apart j i o' o hj hi hlt ho' ho t hd')
    have hlook : ∀ (vals : Nat → Value) (t : Nat) (recs : List SRec) (newer : List SRec) (i : Nat), RInv l recs i → i ≤ n → recsN = newer ++ recs → (∀ r ∈ newer, i ≤ r.ix) →
        (∀ (j : Nat) (o : Oper), j < n → l[j]? = some o → o.dst = some t → j < i ∧ RecV recsN e j (vals j) w) → SlotIs recs base e t ((full (l.take n) vals a).tmps.getD t undef) := fun vals t recs newer i hI hin heq hnew hV => by
      rw [full_look hdst]
      unfold look
      cases hw : wrt t (l.take n) 0 none with
      | none =>
        have hno := (wrt_none hw).2
        have hrd : recDst t recs = none := by
          cases hr : recDst t recs with
          | none => rfl
          | some r =>
            obtain ⟨h1, h2⟩ := recIx_dst t hr
            obtain ⟨o, ho, hd⟩ := hI.dst r h1
            have hlt := (hI.ok.1 r h1).1
            have hmem : o ∈ l.take n := List.mem_of_getElem? (i := r.ix) (by rw [List.getElem?_take, if_pos (by omega)]; exact ho)
            exact absurd (hd.trans h2) (hno o hmem)
        have := hf.slot t
        simp only [SlotIs, recDst] at this
        simp only [SlotIs, hrd]
        exact this
      | some j =>
        rcases wrt_some hw with h1 | ⟨j', o, h1, h2, h3⟩
        · cases h1
        · have hjj : j = j' := by omega
          subst hjj
          rw [List.getElem?_take] at h2
          split at h2
          · rename_i hjn
            obtain ⟨hji, r, hr, hri, hs1, hs2⟩ := hV j o hjn h2 h3
            have hrr : r ∈ recs := by
              rw [heq] at hr
              rcases List.mem_append.1 hr with hr | hr
              · have := hnew r hr; omega
              · exact hr
            have hrd : r.dst = some t := by
              obtain ⟨o', ho', hd'⟩ := hI.dst r hrr
              rw [hri, h2] at ho'
              cases ho'
              rw [← hd']; exact h3
            have hrec : recDst t recs = some r := by
              cases hr' : recDst t recs with
              | none =>
                exfalso
                clear hs1 hs2 heq hnew hr hV hI
                induction recs with
                | nil => cases hrr
                | cons x xs ih =>
                  simp only [recDst] at hr'
                  split at hr'
                  · cases hr'
                  · rename_i hb
                    rcases List.mem_cons.1 hrr with rfl | hrr
                    · rw [hrd] at hb
                      simp only [dstIs] at hb
                      rw [eqb_eq.2 rfl] at hb
                      cases hb
                    · exact ih hrr hr'
              | some r' =>
                obtain ⟨g1, g2⟩ := recIx_dst t hr'
                obtain ⟨o', ho', hd'⟩ := hI.dst r' g1
                have hlt := (hI.ok.1 r' g1).1
                have := huniq r'.ix j o' o t (by omega) hjn ho' h2 (hd'.trans g2) h3
                exact congrArg some (rec_uniq hI.ok.2 r' g1 r hrr (by omega))
            simp only [SlotIs, hrec]
            have hsat : sat recsN r.ctx = sat recs r.ctx := by
              rw [heq]
              refine sat_append newer fun r' hr' x hx => ?_
              have q1 := hnew r' hr'
              have q2 := hI.ok.1 r hrr
              have q3 := q2.2 x hx
              omega
            rw [hsat] at hs1 hs2
            exact ⟨hs1, hs2⟩
          · cases h2
    refine wp_region_rgS n n (fun _ w' => Ext w w') Ext (RecV recsN e) hS.mix RS (Ext.refl _).drew (fun _ w' _ => Ext.refl w') (fun _ _ _ h hx => h.trans hx) (fun _ i v w1 w2 _ _ hV _ => hV) ?_ ?_
    · have key : ∀ (xs : List Oper) (k : Nat), (∀ (j : Nat) (o : Oper), xs[j]? = some o → RgOp S.P l n n (fun _ w' => Ext w w') Ext (RecV recsN e) a (k + j) o) → RgOps S.P l n n (fun _ w' => Ext w w') Ext (RecV recsN e) a k xs := by
        intro xs
        induction xs with
        | nil => intro k _; exact RgOps.done
        | cons o xs ih =>
          intro k hk
          refine RgOps.mk (by simpa using hk 0 o rfl) (ih (k + 1) fun j o' hj => ?_)
          have := hk (j + 1) o' (by simpa using hj)
          rwa [show k + (j + 1) = k + 1 + j by omega] at this
      refine key _ 0 fun i o hi => ?_
      rw [Nat.zero_add]
      rw [List.getElem?_take] at hi
      split at hi
      · rename_i hin
        obtain ⟨recs, co, c, sv, qs, newer, hI, hc, hclt, hev, hqs, heq, hnew, _⟩ := hstep i o hin hi
        have hslots : ∀ (vals : Nat → Value) (w1 : World), Deps (RecV recsN e) vals w1 o → ∀ t ∈ o.looksAt l.toArray, SlotIs recs base e t ((full (l.take n) vals a).tmps.getD t undef) := fun vals w1 hD t ht => by
          refine hlook vals t recs (newer ++ [⟨i, o.dst, c, sv⟩]) i hI (by omega) (by rw [heq]; simp) (fun r hr => ?_) fun j oj hj hoj hd => ?_
          · rcases List.mem_append.1 hr with hr | hr
            · have := hnew r hr; omega
            · simp at hr; subst hr; exact Nat.le_refl _
          · rcases RS.looks i j o oj hin hj hi hoj with ⟨e, he, hb, hon⟩ | hno
            · have hb4 := RS.before i o hin hi e he hb
              have hv := hD e he hb
              rw [hon] at hv hb4
              exact ⟨hb4, hv⟩
            · exact absurd ht (hno t hd)
        have hwant : ∀ (vals : Nat → Value) (w1 : World), Deps (RecV recsN e) vals w1 o → Region.wanted o (yielded l.toArray (full (l.take n) vals a).tmps) = satO recs co := fun vals w1 hD =>
          wanted_sat (base := base) (e := e) hI hc fun g wn t hg hd => hslots vals w1 hD t (by
            unfold Oper.looksAt
            refine List.mem_append_right _ ?_
            rw [hg]
            have e : (l.toArray[g]?).bind (·.dst) = some t := by simpa using hd
            simp only [e]
            simp)
        have hself : (⟨i, o.dst, c, sv⟩ : SRec) ∈ recsN := by rw [heq]; exact List.mem_append_right _ (List.mem_cons_self ..)
        have hsatN : sat recsN c = sat recs c := by
          rw [heq, sat_append newer (fun r hr x hx => by have := hnew r hr; have := hclt x hx; omega), sat_cons (fun x hx => hclt x hx)]
        rcases hev with ⟨rfl, rfl, rfl⟩ | ⟨rfl, hev⟩
        · exact RgOp.off (by omega) fun b vals w1 hC hD => ⟨hwant vals w1 hD, _, hself, rfl, fun _ => rfl, fun _ => rfl⟩
        · cases hs : sat recs c with
          | true =>
            refine RgOp.on (by omega) fun b vals w1 hC hD => ⟨(hwant vals w1 hD).trans hs, ?_⟩
            have hρ : ∀ x ∈ o.op.operands, OpIs recs base e x ((full (l.take n) vals a).eval x) := fun x hx => by
              cases x with
              | tmp t =>
                exact hslots vals w1 hD t (by
                  unfold Oper.looksAt
                  exact List.mem_append_left _ (List.mem_filterMap.2 ⟨.tmp t, by simpa using hx, rfl⟩))
              | const v => rfl
              | global g => rfl
              | func f => rfl
            have := evalOp_pure (w := w1) hS (hM.ext hC) hI.ok.2 hs hρ hev (askP_all hs fun p hp => hpsN p (hqs p hp))
            unfold gives
            exact givesUpon_mono (fun v w' hv => ⟨hv.1, _, hself, rfl, fun _ => hv.2, fun hf => by rw [show sat recsN c = true from hsatN.trans hs] at hf; cases hf⟩) this
          | false =>
            refine RgOp.off (by omega) fun b vals w1 hC hD => ⟨(hwant vals w1 hD).trans hs, _, hself, rfl, fun hf => ?_, fun _ => rfl⟩
            rw [show sat recsN c = false from hsatN.trans hs] at hf; cases hf
      · cases hi
    · intro vals w' hC hV
      have hfN : FrOk recsN base e (full (l.take n) vals a) sz := by
        refine ⟨?_, ?_, fun t => hlook vals t recsN [] n hIN (Nat.le_refl _) rfl (fun r hr => by cases hr) fun j o hj _ _ => ⟨hj, hV j hj⟩⟩
        · have : ∀ (xs : List Oper) (k : Nat) (b : Act), (fillL xs k vals (fun _ => true) b).defers = b.defers := by
            intro xs
            induction xs with
            | nil => intro k b; rfl
            | cons o xs ih =>
              intro k b
              simp only [fillL, if_true]
              rw [ih]
              cases o.dst <;> rfl
          unfold full
          rw [this]; exact hf.defers
        · have : ∀ (xs : List Oper) (k : Nat) (b : Act), (fillL xs k vals (fun _ => true) b).tmps.size = b.tmps.size := by
            intro xs
            induction xs with
            | nil => intro k b; rfl
            | cons o xs ih =>
              intro k b
              simp only [fillL, if_true]
              rw [ih]
              cases o.dst <;> simp [Act.put]
          unfold full
          rw [this]; exact hf.size
      exact runOps_seq (l := l) hS (l.drop n) n recsN memN verN psN hsp.symm (fun j o hj => by rw [List.getElem?_drop] at hj; exact hj) hIN hfN (hM.ext hC) hps hend

end
end Go.Proofs.Ytcekfgcajcjooaa
