/- Q1 Q2. -/
import Derived.Test.YtonomiljclemnaaBasep
import Derived.Deep.QuietTactic
import Derived.Test.YtonomiljclemnaaH3p
set_option linter.unusedVariables false
set_option linter.unusedSimpArgs false
namespace Go.Proofs.Ytonomiljclemnaa
open Go.RowKit
def Blind (P : Program) {α : Type} (s : Sem α) : Prop := ∀ w r w0, s.run P w = .ok r w0 → w0 = w ∧ ∀ w', s.run P w' = .ok r w'
section
variable {P : Program} {α β : Type}
theorem blind_pure (x : α) : Blind P (pure x : Sem α) := fun w r w0 h => by
  rw [Sem.run_pure] at h
  cases h
  exact ⟨rfl, fun w' => Sem.run_pure ..⟩
theorem blind_bind {s : Sem α} {f : α → Sem β} (hs : Blind P s) (hf : ∀ a, Blind P (f a)) : Blind P (s >>= f) := fun w r w0 h => by
  rw [Sem.run_bind] at h
  cases hr : s.run P w with
  | ok a w1 =>
    rw [hr, Result.andThen_ok] at h
    obtain ⟨rfl, h2⟩ := hs w a w1 hr
    obtain ⟨rfl, h4⟩ := hf a _ r w0 h
    exact ⟨rfl, fun w' => by rw [Sem.run_bind, h2 w', Result.andThen_ok]; exact h4 w'⟩
  | halt x w1 => rw [hr] at h; cases h
theorem blind_never {s : Sem α} (h : ∀ w r w0, s.run P w ≠ .ok r w0) : Blind P s := fun w r w0 h' => absurd h' (h w r w0)
theorem blind_program {f : Program → Sem α} (h : ∀ p, Blind P (f p)) : Blind P (program >>= f) := fun w r w0 hr => h P w r w0 hr
theorem blind_halt (h : Halt) : Blind P (.halt h : Sem α) := blind_never fun w r w0 h => by cases h
theorem blind_stuck (s : String) : Blind P (stuck s : Sem α) := blind_halt _
theorem blind_unsupported (u : Unsupported) : Blind P (unsupported u : Sem α) := blind_halt _
def Never (P : Program) {α : Type} (s : Sem α) : Prop := ∀ w r w0, s.run P w ≠ .ok r w0
theorem never_bind {s : Sem α} {f : α → Sem β} (hf : ∀ a, Never P (f a)) : Never P (s >>= f) := fun w r w0 h => by
  rw [Sem.run_bind] at h
  cases hr : s.run P w with
  | ok a w1 => rw [hr, Result.andThen_ok] at h; exact hf a _ _ _ h
  | halt x w1 => rw [hr] at h; cases h
theorem blind_asIntOf (v : Value) : Blind P (asIntOf v) := by
  unfold asIntOf
  split
  · exact blind_pure _
  · exact blind_unsupported _
  · exact blind_stuck _
theorem blind_underlying (t : TypeId) : Blind P (underlying t) := by
  unfold underlying
  refine blind_program fun p => ?_
  split
  · exact blind_pure _
  · exact blind_stuck _
theorem blind_sizeOf (t : TypeId) : Blind P (sizeOf t) := by
  unfold sizeOf typeInfo
  refine blind_bind (blind_program fun p => ?_) fun i => blind_pure _
  split
  · exact blind_pure _
  · exact blind_stuck _
theorem blind_sureAddr (v : Value) : Blind P (Instr.sureAddr v) := by
  unfold Instr.sureAddr
  split
  · exact blind_pure _
  · exact blind_stuck _
theorem never_goPanic (v : Value) : Never P (goPanic v : Sem α) := fun w r w0 h => by cases h
theorem never_bounds (k : IntKind) (x y : Int) (c : BoundsCode) : Never P (boundsPanic k x y c : Sem α) := by
  have hj : ∀ s, Never P (runtimePanic (.bounds (IntKind.i64.wrap x) y s c) : Sem α) := fun s => by
    unfold runtimePanic
    exact never_bind fun p => never_goPanic _
  unfold boundsPanic
  extract_lets jp
  split
  · exact never_bind fun s => hj s
  · exact never_bind fun s => hj s
theorem blind_bounds (k : IntKind) (x y : Int) (c : BoundsCode) : Blind P (boundsPanic k x y c : Sem α) := blind_never (never_bounds k x y c)
theorem blind_indexAt (t : TypeId) (x i : Value) : Blind P (Instr.indexAt t x i) := by
  unfold Instr.indexAt
  refine blind_bind (blind_asIntOf _) fun ki => ?_
  refine blind_bind (blind_underlying _) fun d => ?_
  repeat' first | exact blind_pure _ | exact blind_stuck _ | exact blind_unsupported _ | exact blind_sizeOf _ | exact blind_underlying _ | exact blind_sureAddr _ | exact blind_bounds _ _ _ _ | refine blind_bind ?_ fun _ => ?_ | split | dsimp only | (extract_lets; split)
end
end Go.Proofs.Ytonomiljclemnaa
set_option linter.unusedVariables false
set_option linter.unusedSimpArgs false
namespace Go.Proofs.Ytonomiljclemnaa
open Go.RowKit
section
variable {W0 : World} {G : Nat → Prop} {w : World} {e : Env} {mem : Mem Td}
theorem tab_load_uni {tb : TB} {i : Nat} {mu : Bool} {idx : Int} (hM : MemOk W0 G Id' w e mem) (hm : mem[i]? = some ⟨.us (.ext (.tab tb)), mu⟩) {o : Oper} {ρ : Operand → Value} {x : Operand} (ho : o.op = .load 31 x) (ha : AllC e [.one (.elt i (tb.k + 1) idx tb.k)] [ρ x]) :
    ∃ v, (∀ w', Ext w w' → (execOp ρ o).run Try.prog w' = .ok (.value v) w') ∧ MemOk W0 G Id' w (e ++ [v]) (mem ++ [⟨.us (.byt (tb.byt idx)), false⟩]) := by
  have ha := is_one ha.1
  obtain ⟨b, oo, n, cap, hE, hi, hx⟩ := ha
  obtain ⟨h0, h1, vals, hl, ⟨B, hB, hown⟩, hr⟩ := hM.holds i _ _ hE hm
  have hR := Rs.of_owns hown
  obtain ⟨ao, cap', he, _, _, _, _, h5⟩ := hR.open
  cases he
  obtain ⟨i1, i2⟩ := hi
  have hri : tb.R[idx.toNat]? = some (elB tb.R idx) := by unfold elB; rw [List.getD_eq_getElem?_getD, List.getElem?_eq_getElem i2]; rfl
  have hvi : vals[idx.toNat]? = some (vals.getD idx.toNat undef) := by rw [List.getD_eq_getElem?_getD, List.getElem?_eq_getElem (by omega)]; rfl
  rw [← TB.byt_eq]
  have hcell := h5 _ rfl _ _ (tabCells_get hl h0 idx.toNat _ hvi)
  rw [Addr.add_mid] at hcell
  obtain ⟨hbs, hne⟩ := hr _ _ _ hvi hri
  refine ⟨vals.getD idx.toNat undef, fun w' hw => ?_, hM.share _ (.us (.byt (elB tb.R idx).2)) hbs fun kk hk => ?_⟩
  · have hcell' := hw.cell hcell
    obtain ⟨u, k1, k2⟩ := loadPart (P := Try.prog) (e := []) (w := w') (ty := 31) (cells := [PV.v (vals.getD idx.toNat undef)]) (off := 0) (y := .one (.v (vals.getD idx.toNat undef))) (by kernel_rfl) (b := b) (o := oo + (idx.toNat * (tb.k + 1) + tb.k)) (fun j p hj => by
      match j, hj with
      | 0, hj => simp at hj; subst hj; exact ⟨_, hcell', rfl⟩
      | j + 1, hj => simp at hj)
    have : u = vals.getD idx.toNat undef := k2
    subst this
    exact run_load ho hx k1
  · obtain ⟨hk1, hk2⟩ := hk
    refine ⟨i, _, _, hE, hm, .inr ⟨idx.toNat, _, _, hri, hk1, tab_at hl h0 hown hvi, hk2⟩, fun _ hk => hne kk hk1 hk2 hk⟩
end
end Go.Proofs.Ytonomiljclemnaa
