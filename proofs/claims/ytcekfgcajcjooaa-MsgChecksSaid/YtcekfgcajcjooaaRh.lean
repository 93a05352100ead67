/- A region that draws its order: each operation is shown once, from its own operands alone; the frame is looked up by the kernel. -/
import Derived.Test.YtcekfgcajcjooaaRg
set_option linter.unusedVariables false
set_option linter.unusedSimpArgs false
namespace Go.Proofs.Ytcekfgcajcjooaa
open Go.RowKit

section
variable {P : Program}

def givesR (P : Program) (o : Oper) (ρ : Operand → Value) (w : World) (Post : Value → World → Prop) : Prop := givesUpon P Post ((execOp ρ o).run P w)
@[go_sem] theorem givesR_eq {P : Program} {o : Oper} {ρ : Operand → Value} {w : World} {Post : Value → World → Prop} : givesR P o ρ w Post = givesUpon P Post ((execOp ρ o).run P w) := rfl

/-- The number of the operation that lays the slot t. -/
def wrt (t : Nat) : List Oper → Nat → Option Nat → Option Nat
  | [], _, r => r
  | o :: os, i, r => wrt t os (i + 1) (match o.dst with | some u => if Nat.beq u t = true then some i else r | none => r)
/-- What the slot t holds once the values are laid in. -/
def look (l : List Oper) (vals : Nat → Value) (a : Act) (t : Nat) : Value := match wrt t l 0 none with | some i => vals i | none => a.tmps.getD t undef
def dstB (l : List Oper) (sz : Nat) : Bool := l.all fun o => match o.dst with | some u => decide (u < sz) | none => true
def DstOk (l : List Oper) (a : Act) : Prop := ∀ o ∈ l, ∀ u, o.dst = some u → u < a.tmps.size
theorem dstB_ok {l : List Oper} {sz : Nat} {a : Act} (h : dstB l sz = true) (hs : a.tmps.size = sz) : DstOk l a := fun o ho u hu => by
  have := List.all_eq_true.1 h o ho
  rw [hu] at this
  rw [hs]
  exact of_decide_eq_true this

theorem fillL_look (t : Nat) (x : Value) : ∀ (l : List Oper) (k : Nat) (vals : Nat → Value) (a : Act) (r : Option Nat), DstOk l a →
    a.tmps.getD t undef = (match r with | some i => vals i | none => x) → (fillL l k vals (fun _ => true) a).tmps.getD t undef = (match wrt t l k r with | some i => vals i | none => x)
  | [], _, _, _, _, _, h => h
  | o :: os, k, vals, a, r, hd, h => by
    simp only [fillL, if_true, wrt]
    have hsz : ∀ d v, (a.put d v).tmps.size = a.tmps.size := fun d v => by cases d <;> simp [Act.put]
    refine fillL_look t x os (k + 1) vals _ _ (fun o' ho' u hu => by rw [hsz]; exact hd o' (List.mem_cons_of_mem _ ho') u hu) ?_
    cases ho : o.dst with
    | none => exact h
    | some u =>
      have hu := hd o (List.mem_cons_self ..) u ho
      simp only [Act.put]
      by_cases hut : u = t
      · subst hut
        simp [hu, show Nat.beq u u = true from Nat.beq_refl u]
      · have hb : Nat.beq u t = false := by cases hb : Nat.beq u t with | true => exact absurd (Nat.eq_of_beq_eq_true hb) hut | false => rfl
        simp only [hb, Bool.false_eq_true, if_false]
        rw [← h]
        simp only [Array.getD_eq_getD_getElem?]
        rw [Array.getElem?_setIfInBounds_ne hut]
theorem full_look {l : List Oper} {vals : Nat → Value} {a : Act} (h : DstOk l a) (t : Nat) : (full l vals a).tmps.getD t undef = look l vals a t := fillL_look t _ l 0 vals a none h rfl

/-- How an operation sees its frame. -/
structure Sees (ρ : Operand → Value) (l : List Oper) (vals : Nat → Value) (a : Act) : Prop where
  tmp : ∀ t, ρ (.tmp t) = look l vals a t
  const : ∀ v, ρ (.const v) = v
  global : ∀ g, ρ (.global g) = .pointer (some ⟨g, 0, none⟩)
  func : ∀ f, ρ (.func f) = .func (.func f) #[] #[]

def bindsOn (o : Oper) (j : Nat) : Bool := o.after.toList.any fun e => Nat.beq e.on j && Region.binds .any e
theorem Deps.at {V : Nat → Value → World → Prop} {vals : Nat → Value} {w : World} {o : Oper} (h : Deps V vals w o) (j : Nat) (hb : bindsOn o j = true) : V j (vals j) w := by
  obtain ⟨e, he, h2⟩ := List.any_eq_true.1 hb
  rw [Bool.and_eq_true] at h2
  have := Nat.eq_of_beq_eq_true h2.1
  subst this
  exact h e (Array.mem_toList_iff.1 he) h2.2

/-- The guard, if it is one that the operation waits for and that no other lays. -/
def guardAt (l : List Oper) (n : Nat) (o : Oper) : Option (Nat × Bool) :=
  match o.guard with
  | none => none
  | some (g, want) => match (l[g]?).bind (·.dst) with
    | none => none
    | some t => match wrt t (l.take n) 0 none with
      | none => none
      | some g' => if (Nat.beq g' g && bindsOn o g) = true then some (g, want) else none
theorem guardAt_spec {l : List Oper} {n : Nat} {o : Oper} {g : Nat} {want : Bool} (h : guardAt l n o = some (g, want)) :
    o.guard = some (g, want) ∧ bindsOn o g = true ∧ ∃ t, (l[g]?).bind (·.dst) = some t ∧ wrt t (l.take n) 0 none = some g := by
  unfold guardAt at h
  split at h
  · cases h
  · rename_i g' want' hg
    split at h
    · cases h
    · rename_i t ht
      split at h
      · cases h
      · rename_i g'' hw
        split at h
        · rename_i hb
          cases h
          rw [Bool.and_eq_true] at hb
          have := Nat.eq_of_beq_eq_true hb.1
          subst this
          exact ⟨hg, hb.2, t, ht, hw⟩
        · cases h
theorem yielded_at {l : List Oper} {n : Nat} {o : Oper} {g : Nat} {want : Bool} {V : Nat → Value → World → Prop} {a : Act} {vals : Nat → Value} {w : World} (hd : DstOk (l.take n) a) (h : guardAt l n o = some (g, want)) (b : Bool)
    (hV : ∀ v w, V g v w → v = .bool b) (hD : Deps V vals w o) : yielded l.toArray (full (l.take n) vals a).tmps g = some b := by
  obtain ⟨h1, h2, t, h3, h4⟩ := guardAt_spec h
  have h5 := full_look (vals := vals) hd t
  have h6 := hV _ _ (hD.at g h2)
  simp only [look, h4, h6] at h5
  unfold yielded
  have e : (l.toArray[g]?).bind (·.dst) = some t := by simpa using h3
  rw [e, Option.bind_some]
  simp only [Array.getD_eq_getD_getElem?] at h5
  cases hq : (full (l.take n) vals a).tmps[t]? with
  | none => rw [hq] at h5; cases h5
  | some v => rw [hq] at h5; simp only [Option.getD_some] at h5; subst h5; rfl

/-- The operation is done. -/
def Wants (l : List Oper) (n : Nat) (V : Nat → Value → World → Prop) (a : Act) (o : Oper) : Prop := DstOk (l.take n) a → ∀ vals w, Deps V vals w o → Region.wanted o (yielded l.toArray (full (l.take n) vals a).tmps) = true
/-- The operation is left out. -/
def Shuns (l : List Oper) (n : Nat) (V : Nat → Value → World → Prop) (a : Act) (o : Oper) : Prop := DstOk (l.take n) a → ∀ vals w, Deps V vals w o → Region.wanted o (yielded l.toArray (full (l.take n) vals a).tmps) = false
theorem Wants.free {l : List Oper} {n : Nat} {V : Nat → Value → World → Prop} {a : Act} {o : Oper} (h : o.guard = none) : Wants l n V a o := fun _ _ _ _ => by simp [Region.wanted, h]
theorem Wants.on {l : List Oper} {n : Nat} {V : Nat → Value → World → Prop} {a : Act} {o : Oper} (g : Nat) (want : Bool) (h : guardAt l n o = some (g, want)) (hV : ∀ v w, V g v w → v = .bool want) : Wants l n V a o := fun hd vals w hD => by
  have := yielded_at hd h want hV hD
  simp [Region.wanted, (guardAt_spec h).1, this]
theorem Shuns.by {l : List Oper} {n : Nat} {V : Nat → Value → World → Prop} {a : Act} {o : Oper} (g : Nat) (want : Bool) (h : guardAt l n o = some (g, want)) (hV : ∀ v w, V g v w → v = .bool (!want)) : Shuns l n V a o := fun hd vals w hD => by
  have := yielded_at hd h (!want) hV hD
  cases want <;> simp [Region.wanted, (guardAt_spec h).1, this]

def RhOp (P : Program) (l : List Oper) (n s : Nat) (C : Bool → World → Prop) (R : World → World → Prop) (V : Nat → Value → World → Prop) (a : Act) (i : Nat) (o : Oper) : Prop := DstOk (l.take n) a → RgOp P l n s C R V a i o
def RhOps (P : Program) (l : List Oper) (n s : Nat) (C : Bool → World → Prop) (R : World → World → Prop) (V : Nat → Value → World → Prop) (a : Act) (i : Nat) (os : List Oper) : Prop := DstOk (l.take n) a → RgOps P l n s C R V a i os
section
variable {l : List Oper} {n s : Nat} {C : Bool → World → Prop} {R : World → World → Prop} {V : Nat → Value → World → Prop} {a : Act} {i : Nat} {o : Oper} {os : List Oper}
theorem RhOps.mk (h : RhOp P l n s C R V a i o) (h' : RhOps P l n s C R V a (i + 1) os) : RhOps P l n s C R V a i (o :: os) := fun hd => RgOps.mk (h hd) (h' hd)
theorem RhOps.done : RhOps P l n s C R V a i [] := fun _ => RgOps.done

theorem sees (hd : DstOk (l.take n) a) (vals : Nat → Value) : Sees (full (l.take n) vals a).eval (l.take n) vals a := ⟨fun t => full_look hd t, fun _ => rfl, fun _ => rfl, fun _ => rfl⟩

theorem RhOp.at (hi : i ≠ s) (hw : Wants l n V a o)
    (h : ∀ (b : Bool) (vals : Nat → Value) (ρ : Operand → Value) (w : World), C b w → Deps V vals w o → Sees ρ (l.take n) vals a → givesR P o ρ w (fun v w' => R w w' ∧ V i v w')) : RhOp P l n s C R V a i o := fun hd =>
  RgOp.on hi fun b vals w hC hD => ⟨hw hd vals w hD, by unfold gives; exact h b vals _ w hC hD (sees hd vals)⟩
theorem RhOp.off (hi : i ≠ s) (hw : Shuns l n V a o) (h : ∀ b w, C b w → V i undef w) : RhOp P l n s C R V a i o := fun hd =>
  RgOp.off hi fun b vals w hC hD => ⟨hw hd vals w hD, h b w hC⟩
theorem RhOp.special (hi : i = s) (hg : o.guard = none)
    (h : ∀ (vals : Nat → Value) (ρ : Operand → Value) (w : World), C false w → Deps V vals w o → Sees ρ (l.take n) vals a → givesR P o ρ w (fun v w' => C true w' ∧ V i v w' ∧ ∀ j, j < n → j ≠ i → ∀ u, V j u w → V j u w')) : RhOp P l n s C R V a i o := fun hd =>
  RgOp.special hi hg fun vals w hC hD => by unfold gives; exact h vals _ w hC hD (sees hd vals)

def isMove (op : Op) : Option Operand := match op with | .move x => some x | .assign x => some x | _ => none
theorem gives_move {x : Operand} (h : isMove o.op = some x) {ρ : Operand → Value} {w : World} {Post : Value → World → Prop} (hp : Post (ρ x) w) : givesR P o ρ w Post := by
  rw [givesR_eq]
  unfold execOp
  cases ho : o.op <;> rw [ho] at h <;> simp only [isMove, Option.some.injEq, reduceCtorEq] at h
  all_goals subst h; exact hp
/-- What another operation left is handed on. -/
theorem RhOp.move (hi : i ≠ s) (hw : Wants l n V a o) (t j : Nat) (hR0 : ∀ b w, C b w → R w w) (hm : isMove o.op = some (.tmp t)) (hj : wrt t (l.take n) 0 none = some j) (hb : bindsOn o j = true) (hV : ∀ v w, V j v w → V i v w) : RhOp P l n s C R V a i o :=
  RhOp.at hi hw fun b vals ρ w hC hD hS => gives_move hm ⟨hR0 _ _ hC, hV _ _ (by rw [hS.tmp t]; unfold look; rw [hj]; exact hD.at j hb)⟩
/-- What the frame held is handed on. -/
theorem RhOp.moveA (hi : i ≠ s) (hw : Wants l n V a o) (t : Nat) (hR0 : ∀ b w, C b w → R w w) (hm : isMove o.op = some (.tmp t)) (hj : wrt t (l.take n) 0 none = none) (x : Value) (hx : a.tmps.getD t undef = x) (hV : ∀ b w, C b w → V i x w) : RhOp P l n s C R V a i o :=
  RhOp.at hi hw fun b vals ρ w hC hD hS => gives_move hm ⟨hR0 _ _ hC, by rw [hS.tmp t]; unfold look; rw [hj]; simp only [hx]; exact hV _ _ hC⟩
theorem RhOp.moveC (hi : i ≠ s) (hw : Wants l n V a o) (x : Value) (hR0 : ∀ b w, C b w → R w w) (hm : isMove o.op = some (.const x)) (hV : ∀ b w, C b w → V i x w) : RhOp P l n s C R V a i o :=
  RhOp.at hi hw fun b vals ρ w hC hD hS => gives_move hm ⟨hR0 _ _ hC, by rw [hS.const]; exact hV _ _ hC⟩
end

/-- THE LAW, with the frame looked up. -/
theorem wp_region_rh {id : Nat} {l : List Oper} {a : Act} {w : World} {Q : Exit → Act → World → Prop} (n sz : Nat) (C : World → Prop) (R : World → World → Prop) (V : Nat → Value → World → Prop)
    (hm : P.follows .mixedOrders = true) (hB : rgB l n = true) (hz : dstB (l.take n) sz = true) (hs : a.tmps.size = sz) (hC : C w.drew)
    (hR0 : ∀ w, C w → R w w) (hCR : ∀ w w', C w → R w w' → C w') (hVR : ∀ i v w w', i < n → C w → V i v w → R w w' → V i v w')
    (hops : RhOps P l n n (fun _ => C) R V a 0 (l.take n))
    (hend : ∀ vals w, C w → (∀ i, i < n → V i (vals i) w) → wpList P l.toArray Q (l.drop n) (full (l.take n) vals a) w) : (Code.region id l.toArray true).wp P Q a w :=
  wp_region_rg n C R V hm hB hC hR0 hCR hVR (hops (dstB_ok hz hs)) hend

/-- .. with a list of what each leaves, of which every part stays. -/
theorem wp_region_rx {id : Nat} {l : List Oper} {a : Act} {w : World} {Q : Exit → Act → World → Prop} (n sz : Nat) (vs : List (Value → World → Prop))
    (hm : P.follows .mixedOrders = true) (hB : rgB l n = true) (hz : dstB (l.take n) sz = true) (hs : a.tmps.size = sz) (hst : StL Ext vs)
    (hops : RhOps P l n n (fun _ w' => Ext w w') Ext (vlist vs) a 0 (l.take n))
    (hend : ∀ vals w', Ext w w' → (∀ i, i < n → vlist vs i (vals i) w') → wpList P l.toArray Q (l.drop n) (full (l.take n) vals a) w') : (Code.region id l.toArray true).wp P Q a w :=
  wp_region_rh n sz (fun w' => Ext w w') Ext (vlist vs) hm hB hz hs (Ext.refl _).drew (fun w' _ => Ext.refl w') (fun _ _ h hx => h.trans hx) (fun i v w1 w2 _ _ hV hx => StL.vlist (R := Ext) hst i v w1 w2 hV hx) hops hend

/-- One operation by what it yields, in its place in a row. -/
theorem wpList_via {ops : Array Oper} {rest : List Oper} {o : Oper} {a : Act} {w : World} {Q : Exit → Act → World → Prop} (hgd : o.guard = none) (Post : Value → World → Prop) (hg : gives P o a w Post)
    (h : ∀ v w', Post v w' → wpList P ops Q rest (a.put o.dst v) w') : wpList P ops Q (o :: rest) a w := by
  refine wpList_step fun K hK => ?_
  rw [if_pos (by simp [Region.wanted, hgd])]
  exact gives_wp rfl hg fun v w' hv => hK _ _ (h v w' hv)
theorem wpList_as {ops : Array Oper} {rest : List Oper} {o : Oper} {a : Act} {w : World} {Q : Exit → Act → World → Prop} (hgd : o.guard = none) (x : Value) (hg : gives P o a w fun v w' => v = x ∧ w' = w)
    (h : wpList P ops Q rest (a.put o.dst x) w) : wpList P ops Q (o :: rest) a w :=
  wpList_via hgd _ hg fun v w' ⟨h1, h2⟩ => by subst h1; subst h2; exact h

section
variable {l : List Oper} {n s : Nat} {C : Bool → World → Prop} {R : World → World → Prop} {V : Nat → Value → World → Prop} {a : Act} {i : Nat} {o : Oper} {os : List Oper}
theorem givesUpon_mono {Q Q' : Value → World → Prop} (h : ∀ v w, Q v w → Q' v w) {r : Result Next} (hr : givesUpon P Q r) : givesUpon P Q' r := by
  cases r with
  | ok x w' => cases x with
    | value v => exact h _ _ hr
    | skip => exact h _ _ hr
    | enter f args => exact Calls.mono hr fun e w'' ⟨v, h1, h2⟩ => ⟨v, h1, h _ _ h2⟩
    | _ => exact hr.elim
  | _ => exact hr.elim
/-- An operation whose guard is a Boolean that is open. -/
theorem RhOp.condx (hi : i ≠ s) (g : Nat) (want c : Bool) (X : Value) (hg : guardAt l n o = some (g, want)) (hVg : ∀ v w, V g v w → v = .bool c) (hVi : ∀ w, V i X w) (hoff : c ≠ want → ∀ w, V i undef w)
    (hon : c = want → ∀ (b : Bool) (vals : Nat → Value) (ρ : Operand → Value) (w : World), C b w → Deps V vals w o → Sees ρ (l.take n) vals a → givesR P o ρ w (fun v w' => R w w' ∧ v = X)) : RhOp P l n s C R V a i o := by
  by_cases h : c = want
  · refine RhOp.at hi (Wants.on g want hg (fun v w hv => by rw [hVg v w hv, h])) fun b vals ρ w hC hD hS => ?_
    have := hon h b vals ρ w hC hD hS
    rw [givesR_eq] at this ⊢
    exact givesUpon_mono (fun v w' hv => ⟨hv.1, by rw [hv.2]; exact hVi w'⟩) this
  · refine RhOp.off hi (Shuns.by g want hg (fun v w hv => by rw [hVg v w hv]; cases c <;> cases want <;> first | rfl | exact absurd rfl h)) fun b w _ => hoff h w
end

/-- What an operation leaves whose guard is open. -/
def exc (b c : Bool) (x : Value) : Value → World → Prop := fun v _ => b = c → v = x
theorem exc_st {R : World → World → Prop} {b c : Bool} {x : Value} : ∀ v w w', exc b c x v w → R w w' → exc b c x v w' := fun _ _ _ h _ => h

/-- What the frame behind a drawn piece holds. -/
theorem full_tmp {l : List Oper} {vals : Nat → Value} {a : Act} (sz : Nat) (hz : dstB l sz = true) (hs : a.tmps.size = sz) (t j : Nat) (hj : wrt t l 0 none = some j) {v : Value} (hv : vals j = v) : (full l vals a).eval (.tmp t) = v := by
  have h := (sees (l := l) (n := l.length) (a := a) (by rw [List.take_length]; exact dstB_ok hz hs) vals).tmp t
  rw [List.take_length] at h
  rw [h]
  unfold look
  rw [hj]
  exact hv

attribute [irreducible] RhOps RhOp givesR
end
end Go.Proofs.Ytcekfgcajcjooaa
