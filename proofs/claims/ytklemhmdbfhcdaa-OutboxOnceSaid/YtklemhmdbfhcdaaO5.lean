/- outbox: rows of messages. -/
import Derived.Test.YtklemhmdbfhcdaaO4
import Derived.Test.YtklemhmdbfhcdaaM15
import Derived.Test.YtklemhmdbfhcdaaT16



set_option linter.unusedVariables false
set_option linter.unusedSimpArgs false
namespace Go.Proofs.Ytklemhmdbfhcdaa
open Go.RowKit

/-- A call, as the law has it. -/
structure DoO where
  kind : Int
  m : Msg
  a : Option Addr
  n : Nat
  c : Nat
  s : Int
  b : Int
  t : Int
  e : Int
def DoO.zero : DoO := ⟨0, ⟨0, 0, 0, 0, 0, 0, 0, 0, 0, 0, 0, ⟨#[]⟩, ⟨#[]⟩, 0, 0, ⟨#[]⟩, 0, []⟩, none, 0, 0, 0, 0, 0, 0⟩
def DoO.v (d : DoO) : Value := .slice d.a d.n d.c
def doAt (l : List DoO) (i : Nat) : DoO := l.getD i DoO.zero
def DoO.vals (d : DoO) : List Value := .int .i64 d.kind :: (d.m.vals d.v ++ [.int .u64 d.s, .int .u64 d.b, .int .u64 d.t, .int .i64 d.e])
def doKS (l : List DoO) : KS := ⟨23, l.length, fun i => [.v (.int .i64 (doAt l i).kind), .v (.int .i64 (doAt l i).m.ty), .v (.int .i64 (doAt l i).m.cl), .v (.int .u64 (doAt l i).m.ss), .v (.int .u64 (doAt l i).m.sq), .v (.int .u64 (doAt l i).m.bo), .v (.int .i64 (doAt l i).m.kd), .v (.int .i64 (doAt l i).m.er), .v (.int .i64 (doAt l i).m.f1), .v (.int .i64 (doAt l i).m.f2), .v (.int .i64 (doAt l i).m.d1), .v (.int .i64 (doAt l i).m.d2), .v (.string (doAt l i).m.nm), .v (.string (doAt l i).m.ot), .v (.int .i64 (doAt l i).m.mo), .v (.int .i64 (doAt l i).m.pl), .v (.string (doAt l i).m.da), .v (.int .u64 (doAt l i).m.ve), .v (.slice (doAt l i).a (doAt l i).n (doAt l i).c), .v (.int .u64 (doAt l i).s), .v (.int .u64 (doAt l i).b), .v (.int .u64 (doAt l i).t), .v (.int .i64 (doAt l i).e)]⟩
def knOf (l : List DoO) : List (List Ent × Value) := l.map fun d => (d.m.en, d.v)
def sameSl (x y : Value) : Bool := match x, y with
  | .slice a n c, .slice a' n' c' => decide (a = a') && (decide (n = n') && decide (c = c'))
  | _, _ => false
theorem sameSl_eq {x y : Value} (h : sameSl x y = true) : x = y := by
  unfold sameSl at h
  split at h
  · simp only [Bool.and_eq_true, decide_eq_true_eq] at h
    obtain ⟨rfl, rfl, rfl⟩ := h
    rfl
  · cases h
/-- The entries that are known by a value. -/
def enW (ds : List (List Ent × Value)) (u : Value) : List Ent := match ds.find? (fun d => sameSl d.2 u) with
  | some d => d.1
  | none => []
theorem enW_is {ds : List (List Ent × Value)} {u : Value} (h : ds.any (fun d => sameSl d.2 u) = true) : ∃ d ∈ ds, d.2 = u ∧ enW ds u = d.1 := by
  obtain ⟨d, hd, he⟩ := List.any_eq_true.1 h
  cases hf : ds.find? (fun d => sameSl d.2 u) with
  | none => exact absurd he (by simpa using List.find?_eq_none.1 hf d hd)
  | some d' =>
    have h1 := List.find?_some hf
    exact ⟨d', List.mem_of_find?_eq_some hf, sameSl_eq h1, by unfold enW; rw [hf]⟩
theorem esR_es {w : World} {v : Value} {l : List Ent} (h : EsR w v l) : Es w v l := by
  obtain ⟨ao, cap, rfl, h1, h2, h3, h4⟩ := h
  refine ⟨ao, cap, rfl, h1, h2, h3, fun a ha => ⟨(h4 a ha).1, fun i hi j p hp => ?_⟩⟩
  obtain ⟨x, g1, g2⟩ := (h4 a ha).2 i hi j p hp
  exact ⟨x, g1, g2⟩
theorem es_esR {w : World} {v : Value} {l : List Ent} (h : Es w v l) : EsR w v l := by
  obtain ⟨ao, cap, rfl, h1, h2, h3, h4⟩ := h
  refine ⟨ao, cap, rfl, h1, h2, h3, fun a ha => ⟨(h4 a ha).1, fun i hi j p hp => ?_⟩⟩
  obtain ⟨x, g1, g2⟩ := (h4 a ha).2 i hi j p hp
  exact ⟨x, g1, g2⟩
/-- A message without entries. -/
def msgN (x : CV) : Option (Msg × List Prop) := match x with
  | .agg ps => (match mapO valP (ps.take 17), ps.drop 17 with
    | some [.int .i64 ty, .int .i64 cl, .int .u64 ss, .int .u64 sq, .int .u64 bo, .int .i64 kd, .int .i64 er, .int .i64 f1, .int .i64 f2, .int .i64 d1, .int .i64 d2, .string nm, .string ot, .int .i64 mo, .int .i64 pl, .string da, .int .u64 ve], [.v (.slice none 0 0)] => some ((⟨ty, cl, ss, sq, bo, kd, er, f1, f2, d1, d2, nm, ot, mo, pl, da, ve, []⟩ : Msg), [])
    | _, _ => none)
  | _ => none
def isNilC (x : CV) : Bool := match x with
  | .agg ps => (match ps.drop 17 with
    | [.v _] => true
    | _ => false)
  | _ => false
def msgP2 (mem : Mem Lab) (x : CV) : Option (Msg × List Prop) := match isNilC x with
  | true => msgN x
  | false => msgP mem x
theorem msgP2_is {W0 : World} {G : Nat → Prop} {w : World} {e : Env} {mem : Mem Lab} {x : CV} {m : Msg} {ps : List Prop} {u : Value} (hM : MemOk W0 G labI w e mem) (h : msgP2 mem x = some (m, ps)) (hp : ∀ p ∈ ps, p) (hx : x.is e u) :
    ∃ v, u = .agg (m.vals v).toArray ∧ Es w v m.en := by
  unfold msgP2 at h
  split at h
  · unfold msgN at h
    split at h
    · rename_i cs hnil
      split at h
      · rename_i hvs hob
        simp only [Option.some.injEq, Prod.mk.injEq] at h
        obtain ⟨rfl, rfl⟩ := h
        obtain ⟨us, hus, rfl⟩ := hx
        rw [← List.take_append_drop 17 cs] at hus
        obtain ⟨u1, u2, rfl, h1, h2⟩ := allIs_split hus
        rw [hob] at h2
        rw [allIs_vals hvs h1]
        match u2, h2 with
        | [v], h2 =>
          have hv : v = .slice none 0 0 := h2.1
          subst hv
          exact ⟨_, rfl, es_nil w⟩
        | v :: v' :: r, h2 => exact h2.2.elim
      · cases h
    · cases h
  · exact msgP_is hM h hp hx
theorem msgP2_mono {m1 m2 : Mem Lab} (hl : MLe m1 m2) {x : CV} {m : Msg} {ps : List Prop} (h : msgP2 m1 x = some (m, ps)) : msgP2 m2 x = some (m, ps) := by
  unfold msgP2 at h ⊢
  split at h
  · exact h
  · exact msgP_mono hl h
def row1o (o : Msg → List Prop) (g : Msg → Value) : Fn2 Lab := rowP fun us mem => match us with
  | [x] => (match msgP2 mem x with
    | some (a, ps) => some (ps ++ o a, g a)
    | _ => none)
  | _ => none
theorem row1o_ok {f : FuncId} {o : Msg → List Prop} {g : Msg → Value} (he : ∀ us w, (callFunc f us).run Try.prog w = .ok (.enter f us) w)
    (h : ∀ (m : Msg) (v : Value) (w : World), Es w v m.en → (∀ p ∈ o m, p) → Calls Try.prog f #[.agg (m.vals v).toArray] w fun e w' => e = .returned (g m) ∧ Ext w w') : RowOk Try.prog labI hardL f (row1o o g) := by
  refine rowP_ok he (fun args m m' ps v hs hl => ?_) fun args mem ps v hs hp W0 G w E us hM ha => ?_
  · split at hs
    · split at hs
      · rename_i h1
        simp only [msgP2_mono hl h1]; exact hs
      · cases hs
    · cases hs
  · split at hs
    · split at hs
      · rename_i a ps1 h1
        simp only [Option.some.injEq, Prod.mk.injEq] at hs
        obtain ⟨rfl, rfl⟩ := hs
        obtain ⟨u0, rfl, a0⟩ := allC1 ha
        obtain ⟨v0, rfl, e0⟩ := msgP2_is hM h1 (fun p hp' => hp p (List.mem_append_left _ hp')) a0
        exact h a v0 w e0 fun p hp' => hp p (List.mem_append_right _ hp')
      · cases hs
    · cases hs
def row2o (g : Msg → Msg → Bool) : Fn2 Lab := rowP fun us mem => match us with
  | [x, y] => (match msgP2 mem x, msgP2 mem y with
    | some (a, ps), some (b, qs) => some (ps ++ qs, .bool (g a b))
    | _, _ => none)
  | _ => none
theorem row2o_ok {f : FuncId} {g : Msg → Msg → Bool} (he : ∀ us w, (callFunc f us).run Try.prog w = .ok (.enter f us) w)
    (h : ∀ (m n : Msg) (v v' : Value) (w : World), Es w v m.en → Es w v' n.en → Calls Try.prog f #[.agg (m.vals v).toArray, .agg (n.vals v').toArray] w fun e w' => e = .returned (.bool (g m n)) ∧ Ext w w') : RowOk Try.prog labI hardL f (row2o g) := by
  refine rowP_ok he (fun args m m' ps v hs hl => ?_) fun args mem ps v hs hp W0 G w E us hM ha => ?_
  · split at hs
    · split at hs
      · rename_i h1 h2
        simp only [msgP2_mono hl h1, msgP2_mono hl h2]; exact hs
      · cases hs
    · cases hs
  · split at hs
    · split at hs
      · rename_i a ps1 b qs h1 h2
        simp only [Option.some.injEq, Prod.mk.injEq] at hs
        obtain ⟨rfl, rfl⟩ := hs
        obtain ⟨u0, u1, rfl, a0, a1⟩ := allC2 ha
        obtain ⟨v0, rfl, e0⟩ := msgP2_is hM h1 (fun p hp' => hp p (List.mem_append_left _ hp')) a0
        obtain ⟨v1, rfl, e1⟩ := msgP2_is hM h2 (fun p hp' => hp p (List.mem_append_right _ hp')) a1
        exact h a b v0 v1 w e0 e1
      · cases hs
    · cases hs
def F_mck : Nat × Fn2 Lab := (21, row1o (fun _ => []) fun m => .int .i64 (checkI m))
theorem F_mck_ok : RowOk Try.prog labI hardL F_mck.1 F_mck.2 := row1o_ok Try.call21 fun m v w h _ => mcheck_c m.ty m.cl m.ss m.sq m.bo m.kd m.er m.f1 m.f2 m.d1 m.d2 m.nm m.ot m.mo m.pl m.da m.ve m.en v w h
def F_rsm2 : Nat × Fn2 Lab := (12, row2o sameR)
theorem F_rsm2_ok : RowOk Try.prog labI hardL F_rsm2.1 F_rsm2.2 := row2o_ok Try.call12 fun m n v v' w h h' => rsm_c m.ty m.cl m.ss m.sq m.bo m.kd m.er m.f1 m.f2 m.d1 m.d2 m.nm m.ot m.mo m.pl m.da m.ve m.en v n.ty n.cl n.ss n.sq n.bo n.kd n.er n.f1 n.f2 n.d1 n.d2 n.nm n.ot n.mo n.pl n.da n.ve n.en v' w h h'
def F_ris : Nat × Fn2 Lab := (24, row1o (fun m => [m.nm.size ≤ 9223372036854775807, m.ot.size ≤ 9223372036854775807, Szs m.en]) fun m => .bool (isR m))
theorem F_ris_ok : RowOk Try.prog labI hardL F_ris.1 F_ris.2 := row1o_ok Try.call24 fun m v w h hp => isr_c m.ty m.cl m.ss m.sq m.bo m.kd m.er m.f1 m.f2 m.d1 m.d2 m.nm m.ot m.mo m.pl m.da m.ve m.en v w h (hp _ (by simp)) (hp _ (by simp)) (hp _ (by simp))
/-- Short, of a message whose entries are known by their value. -/
def F_shk (j : Nat) : Nat × Fn2 Lab := (9, fun us mem => match us, mem[j]? with
  | [.agg ps], some ⟨.us (.kn ds), _⟩ => (match mapO valP ps with
    | some [.int .i64 ty, .int .i64 cl, .int .u64 ss, .int .u64 sq, .int .u64 bo, .int .i64 kd, .int .i64 er, .int .i64 f1, .int .i64 f2, .int .i64 d1, .int .i64 d2, .string nm, .string ot, .int .i64 mo, .int .i64 pl, .string da, .int .u64 ve, u] => some ([ds.any (fun d => sameSl d.2 u) = true], .c (.agg [.v (.int .i64 ty), .v (.int .i64 cl), .v (.int .u64 ss), .v (.int .u64 sq), .v (.int .u64 bo), .v (.int .i64 kd), .v (.int .i64 er), .v (.int .i64 f1), .v (.int .i64 f2), .v (.int .i64 d1), .v (.int .i64 d2), .v (.string (shortS nm 20)), .v (.string (shortS ot 20)), .v (.int .i64 mo), .v (.int .i64 pl), .v (.string (shortS da 70)), .v (.int .u64 ve), .obj mem.length]), some (mem ++ [⟨.sl (entKS (shortL (enW ds u))) (.ents (shortL (enW ds u))), true⟩]))
    | _ => none)
  | _, _ => none)
theorem F_shk_ok (j : Nat) : RowOk Try.prog labI hardL (F_shk j).1 (F_shk j).2 := by
  refine ⟨Try.call9, fun W0 G args mem ps r mo hr hp w e us hM ha => ?_, fun args m m' ps r hr => ?_, fun args mem ps r m' hr => ?_⟩
  · simp only [F_shk] at hr
    split at hr
    · rename_i cs ds mu hj
      split at hr
      · rename_i ty cl ss sq bo kd er f1 f2 d1 d2 nm ot mo pl da ve u hvs
        simp only [Option.some.injEq, Prod.mk.injEq] at hr
        obtain ⟨rfl, rfl, rfl⟩ := hr
        obtain ⟨u0, rfl, a0⟩ := allC1 ha
        obtain ⟨us, hus, rfl⟩ := a0
        rw [allIs_vals hvs hus]
        obtain ⟨d, hd, h1, h2⟩ := enW_is (hp _ (List.mem_cons_self ..))
        subst h1
        obtain ⟨x, hx⟩ := hM.ev hj
        have hkn := (hM.holds j x _ hx hj).2 d hd
        rw [h2]
        refine (shortM_c _ _ _ _ _ _ _ _ _ _ _ _ _ _ _ _ _ _ d.2 w (esR_es hkn)).mono fun x w' ⟨v', h1, hx, hes, hf⟩ => ⟨_, h1, e ++ [v'], Grows.push _ _, ?_, hM.push hx v' _ (es_env hes) (fun k hk => hf k hk.2)⟩
        exact ⟨[.int .i64 ty, .int .i64 cl, .int .u64 ss, .int .u64 sq, .int .u64 bo, .int .i64 kd, .int .i64 er, .int .i64 f1, .int .i64 f2, .int .i64 d1, .int .i64 d2, .string (shortS nm 20), .string (shortS ot 20), .int .i64 mo, .int .i64 pl, .string (shortS da 70), .int .u64 ve, v'], ⟨rfl, rfl, rfl, rfl, rfl, rfl, rfl, rfl, rfl, rfl, rfl, rfl, rfl, rfl, rfl, rfl, rfl, by rw [← hM.len]; show (e ++ [v'])[e.length]? = some v'; simp, trivial⟩, rfl⟩
      · cases hr
    · cases hr
  · simp only [F_shk] at hr
    split at hr
    · split at hr <;> simp at hr
    · cases hr
  · simp only [F_shk] at hr
    split at hr
    · split at hr
      · simp only [Option.some.injEq, Prod.mk.injEq] at hr
        obtain ⟨_, _, rfl⟩ := hr
        exact SLe.push _ _ _
      · cases hr
    · cases hr

end Go.Proofs.Ytklemhmdbfhcdaa
