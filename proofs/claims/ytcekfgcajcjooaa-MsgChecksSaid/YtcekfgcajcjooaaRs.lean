/- A region that draws its order, with a chain of operations that do more (calls, one behind the other): what holds goes by how many of them are done. -/
import Derived.Test.YtcekfgcajcjooaaRh
set_option linter.unusedVariables false
set_option linter.unusedSimpArgs false
namespace Go.Proofs.Ytcekfgcajcjooaa
open Go.RowKit

section
variable {P : Program}

/-- The place of i in the chain. -/
def posOf (i : Nat) : List Nat → Nat → Option Nat
  | [], _ => none
  | s :: sp, k => if Nat.beq s i = true then some k else posOf i sp (k + 1)
/-- How many of the chain are done. -/
def stage : List Nat → Array Bool → Nat
  | [], _ => 0
  | s :: sp, L => (if L.getD s false = true then 1 else 0) + stage sp L
/-- A chain: rising, each waits for the one before. -/
def spB (l : List Oper) (n : Nat) : List Nat → Bool
  | [] => true
  | a :: r => decide (a < n) && spB l n r && match r with
    | [] => true
    | b :: _ => decide (a < b) && match l[b]? with
      | some o => bindsOn o a
      | none => false

theorem posOf_none {i : Nat} : ∀ {sp : List Nat} {k : Nat}, posOf i sp k = none → ∀ s ∈ sp, s ≠ i
  | [], _, _, _, h => by cases h
  | x :: sp, k, h, s, hs => by
    unfold posOf at h
    split at h
    · cases h
    · rename_i hx
      rcases List.mem_cons.1 hs with rfl | hs
      · intro e; subst e; exact hx (Nat.beq_refl _)
      · exact posOf_none h s hs
theorem posOf_some {i : Nat} : ∀ {sp : List Nat} {k m : Nat}, posOf i sp k = some m → k ≤ m ∧ sp[m - k]? = some i
  | [], _, _, h => by cases h
  | x :: sp, k, m, h => by
    unfold posOf at h
    split at h
    · rename_i hx
      cases h
      have := Nat.eq_of_beq_eq_true hx
      subst this
      simp
    · obtain ⟨h1, h2⟩ := posOf_some h
      exact ⟨by omega, by rw [show m - k = (m - (k + 1)) + 1 by omega]; simpa using h2⟩

theorem stage_same {i : Nat} : ∀ {sp : List Nat} {k : Nat}, posOf i sp k = none → ∀ L : Array Bool, stage sp (L.setIfInBounds i true) = stage sp L
  | [], _, _, _ => rfl
  | x :: sp, k, h, L => by
    have hx := posOf_none h x (List.mem_cons_self ..)
    unfold posOf at h
    split at h
    · cases h
    · simp only [stage]
      rw [stage_same h L, getD_set_ne false (Ne.symm hx)]
theorem stage_all {l : List Oper} {n : Nat} : ∀ {sp : List Nat}, spB l n sp = true → ∀ {L : Array Bool}, (∀ i, i < n → L.getD i false = true) → stage sp L = sp.length
  | [], _, _, _ => rfl
  | a :: r, h, L, hall => by
    simp only [spB, Bool.and_eq_true, decide_eq_true_eq] at h
    simp only [stage, List.length_cons]
    rw [hall a h.1.1, stage_all h.1.2 hall]
    simp; omega
/-- What is done is done from the chain's head on. -/
theorem stage_down {l : List Oper} {n : Nat} {L : Array Bool} (hcl : ∀ (s : Nat) (os : Oper), l[s]? = some os → L.getD s false = true → ∀ e ∈ os.after, Region.binds .any e = true → L.getD e.on false = true) :
    ∀ {sp : List Nat}, spB l n sp = true → ∀ (j k : Nat), j ≤ k → ∀ (s t : Nat), sp[j]? = some s → sp[k]? = some t → L.getD t false = true → L.getD s false = true
  | [], _, _, _, _, _, _, h, _, _ => by simp at h
  | a :: r, h, 0, 0, _, s, t, hs, ht, hl => by simp at hs ht; subst hs; subst ht; exact hl
  | a :: r, h, j + 1, k + 1, hjk, s, t, hs, ht, hl => by
    simp only [spB, Bool.and_eq_true] at h
    exact stage_down hcl h.1.2 j k (by omega) s t (by simpa using hs) (by simpa using ht) hl
  | a :: r, h, 0, k + 1, _, s, t, hs, ht, hl => by
    simp only [spB, Bool.and_eq_true] at h
    simp at hs
    subst hs
    cases r with
    | nil => simp at ht
    | cons b r =>
      have hb := stage_down hcl h.1.2 0 k (by omega) b t rfl (by simpa using ht) hl
      simp only [Bool.and_eq_true] at h
      have h3 := h.2.2
      cases hob : l[b]? with
      | none => rw [hob] at h3; cases h3
      | some ob =>
        rw [hob] at h3
        obtain ⟨e, he, h4⟩ := List.any_eq_true.1 h3
        rw [Bool.and_eq_true] at h4
        have := Nat.eq_of_beq_eq_true h4.1
        subst this
        exact hcl b ob hob hb e (Array.mem_toList_iff.1 he) h4.2
  | _, _, j + 1, 0, h, _, _, _, _, _ => absurd h (by omega)
theorem spB_lt {l : List Oper} {n : Nat} : ∀ {a : Nat} {r : List Nat}, spB l n (a :: r) = true → ∀ b ∈ r, a < b
  | a, [], _, _, h => by cases h
  | a, b :: r, h, c, hc => by
    simp only [spB, Bool.and_eq_true, decide_eq_true_eq] at h
    have hab := h.2.1
    rcases List.mem_cons.1 hc with rfl | hc
    · exact hab
    · have h2 : spB l n (b :: r) = true := by simp only [spB, Bool.and_eq_true, decide_eq_true_eq]; exact h.1.2
      exact Nat.lt_trans hab (spB_lt h2 c hc)
theorem stage_count {l : List Oper} {n : Nat} {L : Array Bool} : ∀ {sp : List Nat} (k : Nat), spB l n sp = true → k ≤ sp.length → (∀ j s, sp[j]? = some s → L.getD s false = decide (j < k)) → stage sp L = k
  | [], k, _, hk, _ => by simp at hk; subst hk; rfl
  | a :: r, 0, h, _, hL => by
    simp only [spB, Bool.and_eq_true] at h
    have h0 := hL 0 a rfl
    simp only [stage]
    rw [h0, stage_count 0 h.1.2 (Nat.zero_le _) fun j s hs => by have := hL (j + 1) s (by simpa using hs); simpa using this]
    simp
  | a :: r, k + 1, h, hk, hL => by
    simp only [spB, Bool.and_eq_true] at h
    have h0 := hL 0 a rfl
    simp only [stage]
    rw [h0, stage_count k h.1.2 (by simpa using hk) fun j s hs => by have := hL (j + 1) s (by simpa using hs); simpa using this]
    simp; omega
theorem spB_inj {l : List Oper} {n : Nat} : ∀ {sp : List Nat}, spB l n sp = true → ∀ (j k s : Nat), sp[j]? = some s → sp[k]? = some s → j = k
  | [], _, _, _, _, h, _ => by simp at h
  | a :: r, h, 0, 0, _, _, _ => rfl
  | a :: r, h, 0, k + 1, s, h1, h2 => by
    simp at h1 h2
    have := spB_lt h s (List.mem_of_getElem? h2)
    omega
  | a :: r, h, j + 1, 0, s, h1, h2 => by
    simp at h1 h2
    have := spB_lt h s (List.mem_of_getElem? h1)
    omega
  | a :: r, h, j + 1, k + 1, s, h1, h2 => by
    have h' : spB l n r = true := by simp only [spB, Bool.and_eq_true] at h; exact h.1.2
    rw [spB_inj h' j k s (by simpa using h1) (by simpa using h2)]
theorem spB_prev {l : List Oper} {n : Nat} : ∀ {sp : List Nat}, spB l n sp = true → ∀ (j a b : Nat) (o : Oper), sp[j]? = some a → sp[j + 1]? = some b → l[b]? = some o → bindsOn o a = true
  | [], _, _, _, _, _, h, _, _ => by simp at h
  | a :: r, h, 0, x, b, o, h1, h2, h3 => by
    simp at h1 h2
    subst h1
    cases r with
    | nil => simp at h2
    | cons c r =>
      simp at h2
      subst h2
      simp only [spB, Bool.and_eq_true] at h
      have := h.2.2
      rw [h3] at this
      exact this
  | a :: r, h, j + 1, x, b, o, h1, h2, h3 => by
    simp only [spB, Bool.and_eq_true] at h
    exact spB_prev h.1.2 j x b o (by simpa using h1) (by simpa using h2) h3
theorem stage_at {l : List Oper} {n : Nat} {sp : List Nat} {L : Array Bool} {i k : Nat} {o : Oper} (hsp : spB l n sp = true)
    (hcl : ∀ (s : Nat) (os : Oper), l[s]? = some os → L.getD s false = true → ∀ e ∈ os.after, Region.binds .any e = true → L.getD e.on false = true)
    (hk : posOf i sp 0 = some k) (ho : l[i]? = some o) (hd : ∀ e ∈ o.after, Region.binds .any e = true → L.getD e.on false = true) (hu : L.getD i false = false) (hsz : i < L.size) :
    stage sp L = k ∧ stage sp (L.setIfInBounds i true) = k + 1 := by
  obtain ⟨_, hki⟩ := posOf_some hk
  rw [Nat.sub_zero] at hki
  have hlen := (List.getElem?_eq_some_iff.1 hki).1
  have key : ∀ j s, sp[j]? = some s → L.getD s false = decide (j < k) := by
    intro j s hs
    by_cases hj : j < k
    · rw [decide_eq_true hj]
      obtain ⟨m, rfl⟩ : ∃ m, k = m + 1 := ⟨k - 1, by omega⟩
      have hm : m < sp.length := by omega
      have hpm : sp[m]? = some sp[m] := List.getElem?_eq_getElem hm
      have hb := spB_prev hsp m _ i o hpm hki ho
      obtain ⟨e, he, h4⟩ := List.any_eq_true.1 hb
      rw [Bool.and_eq_true] at h4
      have h5 := Nat.eq_of_beq_eq_true h4.1
      have h6 := hd e (Array.mem_toList_iff.1 he) h4.2
      rw [h5] at h6
      exact stage_down hcl hsp j m (by omega) s _ hs hpm h6
    · rw [decide_eq_false hj]
      cases hb : L.getD s false with
      | false => rfl
      | true => rw [stage_down hcl hsp k j (by omega) i s hki hs hb] at hu; cases hu
  refine ⟨stage_count k hsp (Nat.le_of_lt hlen) key, stage_count (k + 1) hsp hlen fun j s hs => ?_⟩
  by_cases hji : s = i
  · subst hji
    have := spB_inj hsp j k s hs hki
    subst this
    simp [hsz]
  · rw [getD_set_ne false (Ne.symm hji), key j s hs]
    have hjk : j ≠ k := fun e => by subst e; rw [hs] at hki; cases hki; exact hji rfl
    rcases Nat.lt_or_ge j k with h | h
    · rw [decide_eq_true h, decide_eq_true (by omega)]
    · rw [decide_eq_false (by omega), decide_eq_false (by omega)]

theorem stage_le {L : Array Bool} : ∀ {sp : List Nat} (m : Nat), (∀ (j s : Nat), m ≤ j → sp[j]? = some s → L.getD s false = false) → stage sp L ≤ m
  | [], _, _ => Nat.zero_le _
  | a :: r, 0, h => by
    have h0 := h 0 a (Nat.le_refl _) rfl
    have h1 := stage_le (sp := r) (L := L) 0 fun j s _ hs => h (j + 1) s (Nat.zero_le _) (by simpa using hs)
    simp only [stage]
    rw [h0]
    simpa using h1
  | a :: r, m + 1, h => by
    have h1 := stage_le (sp := r) (L := L) m fun j s hj hs => h (j + 1) s (by omega) (by simpa using hs)
    simp only [stage]
    split <;> omega
/-- What one of the chain waits for is done ahead of it. -/
theorem stage_early {l : List Oper} {n : Nat} {sp : List Nat} {L : Array Bool} {i : Nat} (hsp : spB l n sp = true)
    (hcl : ∀ (s : Nat) (os : Oper), l[s]? = some os → L.getD s false = true → ∀ e ∈ os.after, Region.binds .any e = true → L.getD e.on false = true) (hu : L.getD i false = false)
    (m s : Nat) (os : Oper) (hms : sp[m]? = some s) (hos : l[s]? = some os) (hbd : bindsOn os i = true) : stage sp L ≤ m := by
  have hs : L.getD s false = false := by
    cases hb : L.getD s false with
    | false => rfl
    | true =>
      obtain ⟨e, he, h4⟩ := List.any_eq_true.1 hbd
      rw [Bool.and_eq_true] at h4
      have h5 := Nat.eq_of_beq_eq_true h4.1
      have h6 := hcl s os hos hb e (Array.mem_toList_iff.1 he) h4.2
      rw [h5, hu] at h6
      cases h6
  refine stage_le m fun j t hj ht => ?_
  cases hb : L.getD t false with
  | false => rfl
  | true => rw [stage_down hcl hsp m j hj s t hms ht hb] at hs; cases hs

/-- One operation's part. -/
def RsOp (P : Program) (l : List Oper) (n : Nat) (sp : List Nat) (C : Nat → World → Prop) (R : World → World → Prop) (V : Nat → Nat → Value → World → Prop) (a : Act) (i : Nat) (o : Oper) : Prop :=
  (posOf i sp 0 = none → ∀ (b : Nat) (vals : Nat → Value) (w : World), (∀ (m s : Nat) (os : Oper), sp[m]? = some s → l[s]? = some os → bindsOn os i = true → b ≤ m) → C b w → Deps (V b) vals w o →
    if Region.wanted o (yielded l.toArray (full (l.take n) vals a).tmps) = true then gives P o (full (l.take n) vals a) w (fun v w' => R w w' ∧ V b i v w') else V b i undef w) ∧
  ∀ k, posOf i sp 0 = some k → ∀ (vals : Nat → Value) (w : World), C k w → Deps (V k) vals w o → Region.wanted o (yielded l.toArray (full (l.take n) vals a).tmps) = true ∧
      gives P o (full (l.take n) vals a) w (fun v w' => C (k + 1) w' ∧ V (k + 1) i v w' ∧ ∀ j, j < n → j ≠ i → ∀ u, V k j u w → V (k + 1) j u w')

theorem rs_run {l : List Oper} {n : Nat} {sp : List Nat} {C : Nat → World → Prop} {R : World → World → Prop} {V : Nat → Nat → Value → World → Prop} {a : Act} {Q : Exit → Act → World → Prop} (S : RgSpec l n) (hsp : spB l n sp = true)
    (hR0 : ∀ b w, C b w → R w w) (hCR : ∀ b w w', C b w → R w w' → C b w') (hVR : ∀ b i v w w', i < n → C b w → V b i v w → R w w' → V b i v w')
    (hops : ∀ i o, i < n → l[i]? = some o → RsOp P l n sp C R V a i o)
    (hend : ∀ vals w, C sp.length w → (∀ i, i < n → V sp.length i (vals i) w) → wpList P l.toArray Q (l.drop n) (full (l.take n) vals a) w) :
    ∀ (c : Nat) (listed : Array Bool) (w : World) (vals : Nat → Value), cnt n listed = c → HeadInv .any l.toArray n listed → C (stage sp listed) w → (∀ i, i < n → listed.getD i false = true → V (stage sp listed) i (vals i) w) →
      wpAny P .any l.toArray Q (c + (l.length - n)) listed (fillL (l.take n) 0 vals (fun i => listed.getD i false) a) w
  | 0, listed, w, vals, hc, inv, hC, hV => by
    have hall := cnt_zero n hc
    have hfull : fillL (l.take n) 0 vals (fun i => listed.getD i false) a = full (l.take n) vals a :=
      fillL_congr _ _ _ _ _ _ _ fun j _ hj => ⟨hall j (by have := S.le; simp at hj; omega), fun _ => rfl⟩
    have hL : listed = ((List.range l.length).map (fun i => decide (i < n))).toArray := by
      apply Array.ext
      · have := inv.size; simpa using this
      · intro i h1 h2
        have hil : i < l.length := by have := inv.size; simp at this; omega
        by_cases hin : i < n
        · have := hall i hin
          simp [h1] at this
          simp [this, hin]
        · have := inv.tail i (by omega) (by simpa using hil)
          simp [h1] at this
          simp [this]; omega
    have hs := S.seq
    rw [← hL] at hs
    rw [hfull, Nat.zero_add]
    have hdl : (l.drop n).length = l.length - n := by simp
    have := wpAny_of_seq (P := P) (md := .any) (Q' := Q) (l.drop n) n listed (full (l.take n) vals a) w (fun j => by simp [List.getElem?_drop]) (by rw [hdl]; exact hs) (hend vals w (by rw [stage_all hsp hall] at hC; exact hC) fun i hi => by have := hV i hi (hall i hi); rwa [stage_all hsp hall] at this)
    rwa [hdl] at this
  | c + 1, listed, w, vals, hc, inv, hC, hV => by
    rw [show c + 1 + (l.length - n) = (c + (l.length - n)) + 1 by omega]
    -- some operation of the head is not listed, and the least of them is ready
    have hex : ∃ i, i < n ∧ listed.getD i false = false := by
      apply Classical.byContradiction
      intro hno
      have : ∀ m, m ≤ n → cnt m listed = 0 := by
        intro m
        induction m with
        | zero => intro _; rfl
        | succ m ih =>
          intro hm
          simp only [cnt]
          rw [ih (by omega)]
          cases hb : listed.getD m false with
          | true => rfl
          | false => exact absurd ⟨m, by omega, hb⟩ hno
      rw [this n (Nat.le_refl _)] at hc
      omega
    have hleast : ∃ i, i ∈ Region.ready .any l.toArray listed ∧ i < n ∧ listed.getD i false = false := by
      obtain ⟨i, hi⟩ := hex
      induction i using Nat.strongRecOn with
      | _ i ih =>
        have hil : i < l.length := by have := S.le; omega
        have hol : l[i]? = some l[i] := List.getElem?_eq_getElem hil
        by_cases hd : ∀ e ∈ l[i].after, Region.binds .any e = true → listed.getD e.on false = true
        · refine ⟨i, mem_ready.2 ⟨getD_in (by have := inv.size; simp at this; omega) hi.2, l[i], by simp, hd⟩, hi⟩
        · have : ∃ e ∈ l[i].after, Region.binds .any e = true ∧ listed.getD e.on false = false := by
            apply Classical.byContradiction
            intro hno
            exact hd fun e he hb => by
              cases hb' : listed.getD e.on false with
              | true => rfl
              | false => exact absurd ⟨e, he, hb, hb'⟩ hno
          obtain ⟨e, he, hb, hf⟩ := this
          have hlt := S.before i l[i] hi.1 hol e he hb
          exact ih e.on hlt ⟨by omega, hf⟩
    obtain ⟨i₀, hr₀, hn₀, hu₀⟩ := hleast
    refine ⟨fun h0 => by rw [h0] at hr₀; simp at hr₀, fun i hi => ?_⟩
    have hin : i < n := by
      rcases S.tail with he | ⟨hlt, hs, hch⟩
      · have := (mem_ready.1 hi).2
        obtain ⟨o, ho, _⟩ := this
        have := (Array.getElem?_eq_some_iff.1 ho).1
        simp at this; omega
      · rcases Nat.lt_or_ge i n with h | h
        · exact h
        · exact absurd hi (tail_waits hs hch (by simp; exact hlt) inv _ i₀ rfl hn₀ (getD_in (by have := inv.size; have := S.le; simp at *; omega) hu₀) i h)
    obtain ⟨hun, o, ho, hdeps⟩ := mem_ready.1 hi
    have hol : l[i]? = some o := by simpa using ho
    have huf : listed.getD i false = false := getD_both hun
    have hdp : Deps (V (stage sp listed)) vals w o := fun e he hb => hV e.on (by have := S.before i o hin hol e he hb; omega) (hdeps e he hb)
    have hop := hops i o hin hol
    have hag : AgreeOn (o.looksAt l.toArray) (fillL (l.take n) 0 vals (fun i => listed.getD i false) a) (full (l.take n) vals a) := by
      refine agree_fill _ (l.take n) 0 vals _ a a ⟨rfl, fun _ _ => rfl⟩ fun j oj hj hpj t ht => ?_
      rw [List.getElem?_take] at hj
      split at hj
      · rename_i hjn
        rcases S.looks i j o oj hin hjn hol hj with ⟨e, he, hb, hon⟩ | hno
        · have := hdeps e he hb
          rw [hon] at this
          rw [Nat.zero_add] at hpj
          rw [this] at hpj; cases hpj
        · exact hno t ht
      · cases hj
    have hnext : ∀ v w', C (stage sp (listed.setIfInBounds i true)) w' → V (stage sp (listed.setIfInBounds i true)) i v w' → (∀ j, j < n → j ≠ i → ∀ u, V (stage sp listed) j u w → V (stage sp (listed.setIfInBounds i true)) j u w') → wpAny P .any l.toArray Q (c + (l.length - n)) (listed.setIfInBounds i true) ((fillL (l.take n) 0 vals (fun i => listed.getD i false) a).put o.dst v) w' := by
      intro v w' hC' hVi hst
      have hsz : i < listed.size := by have := inv.size; have := S.le; simp at *; omega
      have hset := fillL_set (l.take n) 0 i vals (fun i => listed.getD i false) a o v (by rw [List.getElem?_take, if_pos hin]; exact hol) (by rw [Nat.zero_add]; exact huf) (fun j oj hj hij t ht => by
        rw [List.getElem?_take] at hj
        split at hj
        · rename_i hjn; exact S.apart i j o oj hin hjn hij hol hj t ht
        · cases hj)
      rw [← hset, Nat.zero_add]
      have hcn : cnt n (listed.setIfInBounds i true) = c := by have := cnt_set hsz huf n hin; omega
      have e : fillL (l.take n) 0 (upd vals i v) (upd (fun i => listed.getD i false) i true) a = fillL (l.take n) 0 (upd vals i v) (fun j => (listed.setIfInBounds i true).getD j false) a :=
        fillL_congr _ _ _ _ _ _ _ fun j _ _ => ⟨by
          by_cases hji : j = i
          · subst hji; simp [upd, hsz]
          · simp only [upd, if_neg hji]; rw [getD_set_ne false (Ne.symm hji)], fun _ => rfl⟩
      rw [e]
      refine rs_run S hsp hR0 hCR hVR hops hend c _ w' _ hcn (inv.set hi hin) hC' fun j hj hl => ?_
      by_cases hji : j = i
      · subst hji; simp only [upd, if_true]; exact hVi
      · rw [getD_set_ne false (Ne.symm hji)] at hl
        have := hst j hj hji (vals j) (hV j hj hl)
        simpa [upd, hji] using this
    unfold wpOp
    rw [ho]
    dsimp only
    rw [wanted_agree o hag]
    obtain ⟨hpl, hspc⟩ := hop
    have hszl : i < listed.size := by have := inv.size; have := S.le; simp at *; omega
    cases hk : posOf i sp 0 with
    | some k =>
      obtain ⟨hs1, hs2⟩ := stage_at hsp (fun s os hos hl e he hb => inv.closed s os (by simpa using hos) hl e he hb) hk hol hdeps huf hszl
      rw [hs1] at hC hdp
      obtain ⟨hw, hg⟩ := hspc k hk vals w hC hdp
      rw [if_pos hw]
      refine .inl (gives_wp (execOp_agree o (S.sel i o · · ho) hag) hg fun v w' ⟨h1, h2, h3⟩ => hnext v w' (by rw [hs2]; exact h1) (by rw [hs2]; exact h2) (by rw [hs1, hs2]; exact h3))
    | none =>
      have hsame := stage_same hk listed
      have hop := hpl hk _ vals w (fun m s os hms hos hbd => stage_early hsp (fun s os hos hl e he hb => inv.closed s os (by simpa using hos) hl e he hb) huf m s os hms hos hbd) hC hdp
      by_cases hw : Region.wanted o (yielded l.toArray (full (l.take n) vals a).tmps) = true
      · rw [if_pos hw] at hop ⊢
        exact .inl (gives_wp (execOp_agree o (S.sel i o · · ho) hag) hop fun v w' ⟨hR, hVi⟩ => hnext v w' (by rw [hsame]; exact hCR _ _ _ hC hR) (by rw [hsame]; exact hVi) fun j hj _ u hu => by rw [hsame]; exact hVR _ j u w w' hj hC hu hR)
      · rw [if_neg hw] at hop ⊢
        exact hnext undef w (by rw [hsame]; exact hC) (by rw [hsame]; exact hop) fun j hj _ u hu => by rw [hsame]; exact hu

/-- The operations of a region, each by its part. -/
def RsOps (P : Program) (l : List Oper) (n : Nat) (sp : List Nat) (C : Nat → World → Prop) (R : World → World → Prop) (V : Nat → Nat → Value → World → Prop) (a : Act) : Nat → List Oper → Prop
  | _, [] => True
  | i, o :: os => (DstOk (l.take n) a → RsOp P l n sp C R V a i o) ∧ RsOps P l n sp C R V a (i + 1) os
theorem RsOps.get {l : List Oper} {n : Nat} {sp : List Nat} {C : Nat → World → Prop} {R : World → World → Prop} {V : Nat → Nat → Value → World → Prop} {a : Act} (hd : DstOk (l.take n) a) :
    ∀ (os : List Oper) (k : Nat), RsOps P l n sp C R V a k os → ∀ j o, os[j]? = some o → RsOp P l n sp C R V a (k + j) o
  | x :: os, k, h, 0, o, ho => by simp at ho; subst ho; exact h.1 hd
  | x :: os, k, h, j + 1, o, ho => by
    have := RsOps.get hd os (k + 1) h.2 j o (by simpa using ho)
    rwa [show k + 1 + j = k + (j + 1) by omega] at this
  | [], _, _, j, o, ho => by simp at ho

/-- THE LAW. -/
theorem wp_region_rs {id : Nat} {l : List Oper} {a : Act} {w : World} {Q : Exit → Act → World → Prop} (n sz : Nat) (sp : List Nat) (C : Nat → World → Prop) (R : World → World → Prop) (V : Nat → Nat → Value → World → Prop)
    (hm : P.follows .mixedOrders = true) (hB : rgB l n = true) (hsp : spB l n sp = true) (hz : dstB (l.take n) sz = true) (hs : a.tmps.size = sz) (hC : C 0 w.drew)
    (hR0 : ∀ b w, C b w → R w w) (hCR : ∀ b w w', C b w → R w w' → C b w') (hVR : ∀ b i v w w', i < n → C b w → V b i v w → R w w' → V b i v w')
    (hops : RsOps P l n sp C R V a 0 (l.take n))
    (hend : ∀ vals w, C sp.length w → (∀ i, i < n → V sp.length i (vals i) w) → wpList P l.toArray Q (l.drop n) (full (l.take n) vals a) w) : (Code.region id l.toArray true).wp P Q a w := by
  have S := rgB_spec hB
  refine wp_region_any hm ?_
  have inv0 : HeadInv .any l.toArray n (Array.replicate l.toArray.size false) :=
    ⟨by simp, fun j oj _ hl => (by rw [getD_replicate_false] at hl; cases hl), fun t _ ht => getD_in (by simpa using ht) (getD_replicate_false _ _)⟩
  have hst0 : ∀ sp : List Nat, stage sp (Array.replicate l.toArray.size false) = 0 := by
    intro sp
    induction sp with
    | nil => rfl
    | cons s sp ih => simp only [stage]; rw [ih, getD_replicate_false]; simp
  have := rs_run (Q := Q) S hsp hR0 hCR hVR (fun i o hi ho => by
      have := RsOps.get (dstB_ok hz hs) (l.take n) 0 hops i o (by rw [List.getElem?_take, if_pos hi]; exact ho)
      rwa [Nat.zero_add] at this) hend n (Array.replicate l.toArray.size false) w.drew (fun _ => undef) (cnt_false n _) inv0 (by rw [hst0]; exact hC) (fun i hi hl => by rw [getD_replicate_false] at hl; cases hl)
  have e : fillL (l.take n) 0 (fun _ => undef) (fun i => (Array.replicate l.toArray.size false).getD i false) a = a := by
    have : ∀ (os : List Oper) (k : Nat), fillL os k (fun _ => undef) (fun _ => false) a = a := by
      intro os
      induction os with
      | nil => intro k; rfl
      | cons o os ih => intro k; simp only [fillL, Bool.false_eq_true, if_false]; exact ih (k + 1)
    simp only [getD_replicate_false]
    exact this _ _
  rw [e, show n + (l.length - n) = l.toArray.size by have := S.le; simp; omega] at this
  exact this

section
variable {l : List Oper} {n : Nat} {sp : List Nat} {C : Nat → World → Prop} {R : World → World → Prop} {V : Nat → Nat → Value → World → Prop} {a : Act} {i : Nat} {o : Oper} {os : List Oper}
theorem RsOps.mk (h : DstOk (l.take n) a → RsOp P l n sp C R V a i o) (h' : RsOps P l n sp C R V a (i + 1) os) : RsOps P l n sp C R V a i (o :: os) := ⟨h, h'⟩
theorem RsOps.done : RsOps P l n sp C R V a i [] := trivial
theorem RsOp.at (hi : posOf i sp 0 = none) (hw : ∀ b, Wants l n (V b) a o)
    (h : ∀ (b : Nat) (vals : Nat → Value) (ρ : Operand → Value) (w : World), C b w → Deps (V b) vals w o → Sees ρ (l.take n) vals a → givesR P o ρ w (fun v w' => R w w' ∧ V b i v w')) : DstOk (l.take n) a → RsOp P l n sp C R V a i o := fun hd =>
  ⟨fun _ b vals w _ hC hD => by rw [if_pos (hw b hd vals w hD), gives_eq]; have := h b vals _ w hC hD (sees hd vals); rwa [givesR_eq] at this, fun k hk => by rw [hi] at hk; cases hk⟩
/-- One that the m-th of the chain waits for. -/
theorem RsOp.early (m s : Nat) {os : Oper} (hms : sp[m]? = some s) (hos : l[s]? = some os) (hbd : bindsOn os i = true) (hi : posOf i sp 0 = none) (hw : ∀ b, Wants l n (V b) a o)
    (h : ∀ (b : Nat) (vals : Nat → Value) (ρ : Operand → Value) (w : World), b ≤ m → C b w → Deps (V b) vals w o → Sees ρ (l.take n) vals a → givesR P o ρ w (fun v w' => R w w' ∧ V b i v w')) : DstOk (l.take n) a → RsOp P l n sp C R V a i o := fun hd =>
  ⟨fun _ b vals w hb hC hD => by rw [if_pos (hw b hd vals w hD), gives_eq]; have := h b vals _ w (hb m s os hms hos hbd) hC hD (sees hd vals); rwa [givesR_eq] at this, fun k hk => by rw [hi] at hk; cases hk⟩
theorem RsOp.off (hi : posOf i sp 0 = none) (hw : ∀ b, Shuns l n (V b) a o) (h : ∀ b w, C b w → V b i undef w) : DstOk (l.take n) a → RsOp P l n sp C R V a i o := fun hd =>
  ⟨fun _ b vals w _ hC hD => by rw [if_neg (by rw [hw b hd vals w hD]; decide)]; exact h b w hC, fun k hk => by rw [hi] at hk; cases hk⟩
/-- The k-th of the chain. -/
theorem RsOp.chain (k : Nat) (hi : posOf i sp 0 = some k) (hw : ∀ b, Wants l n (V b) a o)
    (h : ∀ (vals : Nat → Value) (ρ : Operand → Value) (w : World), C k w → Deps (V k) vals w o → Sees ρ (l.take n) vals a →
      givesR P o ρ w (fun v w' => C (k + 1) w' ∧ V (k + 1) i v w' ∧ ∀ j, j < n → j ≠ i → ∀ u, V k j u w → V (k + 1) j u w')) : DstOk (l.take n) a → RsOp P l n sp C R V a i o := fun hd =>
  ⟨fun hn => (by rw [hi] at hn; cases hn), fun k' hk' vals w hC hD => by
    rw [hi] at hk'
    cases hk'
    exact ⟨hw _ hd vals w hD, by rw [gives_eq]; have := h vals _ w hC hD (sees hd vals); rwa [givesR_eq] at this⟩⟩
theorem RsOp.move (hi : posOf i sp 0 = none) (hw : ∀ b, Wants l n (V b) a o) (t j : Nat) (hR0 : ∀ b w, C b w → R w w) (hm : isMove o.op = some (.tmp t)) (hj : wrt t (l.take n) 0 none = some j) (hb : bindsOn o j = true) (hV : ∀ b v w, V b j v w → V b i v w) : DstOk (l.take n) a → RsOp P l n sp C R V a i o :=
  RsOp.at hi hw fun b vals ρ w hC hD hS => gives_move hm ⟨hR0 _ _ hC, hV _ _ _ (by rw [hS.tmp t]; unfold look; rw [hj]; exact hD.at j hb)⟩
theorem RsOp.moveA (hi : posOf i sp 0 = none) (hw : ∀ b, Wants l n (V b) a o) (t : Nat) (hR0 : ∀ b w, C b w → R w w) (hm : isMove o.op = some (.tmp t)) (hj : wrt t (l.take n) 0 none = none) (x : Value) (hx : a.tmps.getD t undef = x) (hV : ∀ b w, C b w → V b i x w) : DstOk (l.take n) a → RsOp P l n sp C R V a i o :=
  RsOp.at hi hw fun b vals ρ w hC hD hS => gives_move hm ⟨hR0 _ _ hC, by rw [hS.tmp t]; unfold look; rw [hj]; simp only [hx]; exact hV _ _ hC⟩
end

/-- What each leaves, by how many of the chain are done: those of the chain nothing, before. -/
def svl (vs : List (Nat → Value → World → Prop)) (sp : List Nat) (W : Nat → Nat → Value → World → Prop) (k j : Nat) : Value → World → Prop :=
  match posOf j sp 0 with
  | none => vs.getD j (fun _ _ _ => True) k
  | some m => if Nat.blt m k = true then W m k else fun _ _ => False
def exk (x : Value) : Nat → Value → World → Prop := fun _ v _ => v = x
def StK (R : World → World → Prop) : List (Nat → Value → World → Prop) → Prop
  | [] => True
  | f :: fs => (∀ k v w w', f k v w → R w w' → f k v w') ∧ StK R fs
def NxK (k : Nat) (w w' : World) : List (Nat → Value → World → Prop) → Prop
  | [] => True
  | f :: fs => (∀ v, f k v w → f (k + 1) v w') ∧ NxK k w w' fs
theorem StK.get {R : World → World → Prop} : ∀ {vs : List (Nat → Value → World → Prop)}, StK R vs → ∀ (j k : Nat) (v : Value) (w w' : World), vs.getD j (fun _ _ _ => True) k v w → R w w' → vs.getD j (fun _ _ _ => True) k v w'
  | [], _, _, _, _, _, _, _, _ => by simp
  | f :: fs, hs, 0, k, v, w, w', h, hR => hs.1 k v w w' h hR
  | f :: fs, hs, j + 1, k, v, w, w', h, hR => by
    have := StK.get hs.2 j k v w w' (by simpa using h) hR
    simpa using this
theorem NxK.get {k : Nat} {w w' : World} : ∀ {vs : List (Nat → Value → World → Prop)}, NxK k w w' vs → ∀ (j : Nat) (v : Value), vs.getD j (fun _ _ _ => True) k v w → vs.getD j (fun _ _ _ => True) (k + 1) v w'
  | [], _, _, _, _ => by simp
  | f :: fs, hs, 0, v, h => hs.1 v h
  | f :: fs, hs, j + 1, v, h => by
    have := NxK.get hs.2 j v (by simpa using h)
    simpa using this
theorem svl_stays {R : World → World → Prop} {vs : List (Nat → Value → World → Prop)} {sp : List Nat} {W : Nat → Nat → Value → World → Prop} (hs : StK R vs) (hW : ∀ m k v w w', W m k v w → R w w' → W m k v w') (k j : Nat) (v : Value) (w w' : World) (h : svl vs sp W k j v w) (hR : R w w') : svl vs sp W k j v w' := by
  unfold svl at h ⊢
  cases hp : posOf j sp 0 with
  | none => rw [hp] at h; exact StK.get hs j k v w w' h hR
  | some m =>
    rw [hp] at h
    simp only at h ⊢
    split at h
    · rename_i hb; rw [if_pos hb]; exact hW _ _ _ _ _ h hR
    · exact h.elim
/-- Behind the k-th of the chain. -/
theorem svl_next {vs : List (Nat → Value → World → Prop)} {sp : List Nat} {W : Nat → Nat → Value → World → Prop} {k i n : Nat} {w w' : World} (hi : posOf i sp 0 = some k) (hs : NxK k w w' vs)
    (hW : ∀ m v, m < k → W m k v w → W m (k + 1) v w') : ∀ j, j < n → j ≠ i → ∀ u, svl vs sp W k j u w → svl vs sp W (k + 1) j u w' := by
  intro j _ hji u h
  unfold svl at h ⊢
  cases hp : posOf j sp 0 with
  | none => rw [hp] at h; exact NxK.get hs j u h
  | some m =>
    rw [hp] at h
    simp only at h ⊢
    split at h
    · rename_i hb
      have hb' : m < k := Nat.le_of_ble_eq_true hb
      rw [if_pos (show Nat.blt m (k + 1) = true from Nat.ble_eq_true_of_le (show m + 1 ≤ k + 1 by omega))]
      exact hW m u hb' h
    · exact h.elim
/-- What one of the chain has left. -/
theorem svl_done {vs : List (Nat → Value → World → Prop)} {sp : List Nat} {W : Nat → Nat → Value → World → Prop} {k j m : Nat} {v : Value} {w : World} (hp : posOf j sp 0 = some m) (h : svl vs sp W k j v w) : m < k ∧ W m k v w := by
  unfold svl at h
  rw [hp] at h
  simp only at h
  split at h
  · rename_i hb
    exact ⟨Nat.le_of_ble_eq_true hb, h⟩
  · exact h.elim
theorem givesR_via {o : Oper} {ρ : Operand → Value} {w : World} {Post Post' : Value → World → Prop} (h : givesR P o ρ w Post') (hp : ∀ v w', Post' v w' → Post v w') : givesR P o ρ w Post := by
  rw [givesR_eq] at h ⊢
  generalize (execOp ρ o).run P w = r at *
  cases r with
  | ok x w' =>
    cases x <;> simp only [givesUpon] at h ⊢
    case value v => exact hp _ _ h
    case skip => exact hp _ _ h
    case enter f args => exact h.mono fun e w'' ⟨v, he, h2⟩ => ⟨v, he, hp _ _ h2⟩
  | halt x w' => simp only [givesUpon] at h
/-- A call of a function of the program. -/
theorem gives_call {o : Oper} {ρ : Operand → Value} {w : World} {Post : Value → World → Prop} {x : Operand} {args : Array Operand} {ts : Array TypeId} {f : FuncId} (ho : o.op = .call { callee := .value x, args := args, argTypes := ts }) (hx : ρ x = .func (.func f) #[] #[]) (hf : (callFunc f (args.map ρ)).run P w = .ok (.enter f (args.map ρ)) w)
    (h : Calls P f (args.map ρ) w fun e w' => ∃ v, e = .returned v ∧ Post v w') : givesR P o ρ w Post := by
  rw [givesR_eq]
  unfold execOp
  simp only [ho, resolve, hx]
  simpa [go_sem, hf] using h
theorem exk_st {R : World → World → Prop} {x : Value} : ∀ k v w w', exk x k v w → R w w' → exk x k v w' := fun _ _ _ _ h _ => h
theorem exk_nx {x : Value} {k : Nat} {w w' : World} : ∀ v, exk x k v w → exk x (k + 1) v w' := fun _ h => h

attribute [irreducible] RsOps RsOp
end
end Go.Proofs.Ytcekfgcajcjooaa
