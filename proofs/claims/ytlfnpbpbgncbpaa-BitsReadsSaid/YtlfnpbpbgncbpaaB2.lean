/- The writer of bits: what it is, how it takes some. -/
import Derived.Test.YtlfnpbpbgncbpaaB1
import Derived.Test.YtlfnpbpbgncbpaaMem
import Derived.Test.YtlfnpbpbgncbpaaR1
import Derived.Test.YtlfnpbpbgncbpaaRh
import Derived.Laws.OwnMore
import Derived.Deep.AppendLies
import Derived.RegionTactic
import Derived.Deep.CutBlock
import Derived.Deep.DeepCutAuto
import Derived.Laws.Bits64
import Derived.Laws.BitsAllLaws
import Derived.Deep.QuietTactic
set_option linter.unusedVariables false
set_option linter.unusedSimpArgs false
namespace Go.Proofs.Ytlfnpbpbgncbpaa
open Go.RowKit

/-- The bits of the last byte. -/
def usedOf (l : List Bool) : Nat := if l.length % 8 = 0 then 8 else l.length % 8
/-- A writer that holds these bits. -/
def WrIs (w : World) (B wb : Nat) (l : List Bool) (err : Int) : Prop :=
  ∃ ao cap, w.heap[wb]? = some (.cells #[.bool true, .slice ao (packed l).length cap, .int .i64 (usedOf l : Int), .int .i64 err] 61 (0, 0)) ∧ B ≤ wb ∧
    w.ownsRow B 5 1 (.slice ao (packed l).length cap) (packed l).length ((packed l).map bv)
/-- A writer's blocks. -/
def WrF (w : World) (wb : Nat) (k : Nat) : Prop := k = wb ∨ ∃ v, w.cell? ⟨wb, 1, none⟩ = some v ∧ v.ownBlock = some k
/-- A writer's doing. -/
def WrMod (wb : Nat) (w w' : World) : Prop := Mod (WrF w wb) w w' ∧ ∀ k, WrF w' wb k → k < w.heap.size → WrF w wb k
theorem WrMod.trans {wb : Nat} {a b c : World} (h : WrMod wb a b) (k : WrMod wb b c) : WrMod wb a c :=
  ⟨h.1.trans k.1 h.2, fun i hi hl => h.2 i (k.2 i hi (Nat.lt_of_lt_of_le hl h.1.size)) hl⟩
theorem WrF.ext {wb : Nat} {w w' : World} (hx : Ext w w') (hl : wb < w.heap.size) {k : Nat} (h : WrF w' wb k) : WrF w wb k := by
  rcases h with rfl | ⟨v, h1, h2⟩
  · exact .inl rfl
  · refine .inr ⟨v, ?_, h2⟩
    unfold World.cell? at h1 ⊢
    rwa [hx.block wb hl id] at h1
theorem WrMod.of_ext {wb : Nat} {w w' : World} (hx : Ext w w') (hl : wb < w.heap.size) : WrMod wb w w' := ⟨hx.mod, fun k hk _ => hk.ext hx hl⟩
theorem WrIs.lt {w : World} {B wb : Nat} {l : List Bool} {err : Int} (h : WrIs w B wb l err) : wb < w.heap.size := by
  obtain ⟨ao, cap, h1, _⟩ := h
  exact (Array.getElem?_eq_some_iff.1 h1).1
theorem WrIs.ext {w w' : World} {B wb : Nat} {l : List Bool} {err : Int} (h : WrIs w B wb l err) (hx : Ext w w') : WrIs w' B wb l err := by
  obtain ⟨ao, cap, h1, h2, h3⟩ := h
  exact ⟨ao, cap, (hx.block wb (Array.getElem?_eq_some_iff.1 h1).1 id).trans h1, h2, owns_ext h3 hx⟩

/-- Amid a byte: some bits more go into the last one. -/
structure WrMid (w : World) (B wb g cap : Nat) (a c : List Bool) (err : Int) : Prop where
  blk : w.heap[wb]? = some (.cells #[.bool true, .slice (some ⟨g, 0, none⟩) ((packed a).length + 1) cap, .int .i64 (c.length : Int), .int .i64 err] 61 (0, 0))
  ge : B ≤ wb
  own : w.ownsRow B 5 1 (.slice (some ⟨g, 0, none⟩) ((packed a).length + 1) cap) ((packed a).length + 1) ((packed a ++ [byteOf c]).map bv)
  whole : a.length % 8 = 0
  room : c.length < 8

theorem WrMid.ext {w w' : World} {B wb g cap : Nat} {a c : List Bool} {err : Int} (h : WrMid w B wb g cap a c err) (hx : Ext w w') : WrMid w' B wb g cap a c err :=
  ⟨(hx.block wb (Array.getElem?_eq_some_iff.1 h.blk).1 id).trans h.blk, h.ge, owns_ext h.own hx, h.whole, h.room⟩

theorem p_wrap64 {n k : Nat} (h : k ≤ n) (hn : n ≤ 64) : IntKind.i64.wrap ((n : Int) - (k : Int)) = ((n - k : Nat) : Int) := by
  rw [show (n : Int) - (k : Int) = ((n - k : Nat) : Int) by omega]
  rw [IntKind.wrap_i64]
  omega
theorem p_wrap8 (y : Nat) : IntKind.u8.wrap (y : Int) = ((y : Int) % 256) := IntKind.wrap_u8' _
theorem p_wrap8' (k : Nat) : IntKind.u8.wrap (2 ^ k) = (2 ^ k : Int) % 256 := IntKind.wrap_u8' _
theorem p_mask {k : Nat} (h0 : 0 < k) (h8 : k ≤ 8) : IntKind.u8.wrap ((2 ^ k : Int) % 256 - 1) = ((2 ^ k - 1 : Nat) : Int) := by
  rw [IntKind.wrap_u8']
  rcases (show k = 1 ∨ k = 2 ∨ k = 3 ∨ k = 4 ∨ k = 5 ∨ k = 6 ∨ k = 7 ∨ k = 8 by omega) with rfl | rfl | rfl | rfl | rfl | rfl | rfl | rfl <;> rfl
theorem p_pow8 {k : Nat} (h8 : k ≤ 8) : 2 ^ k ≤ 256 := Nat.pow_le_pow_right (by decide) (show k ≤ 8 from h8)
theorem p_and (y : Nat) {k : Nat} (h8 : k ≤ 8) : bits .and .u8 ((y : Int) % 256) ((2 ^ k - 1 : Nat) : Int) = ((y : Int) % 2 ^ k) := by
  have h1 := u8_and_nat (y % 256) (2 ^ k - 1) (Nat.mod_lt _ (by decide)) (by have := p_pow8 h8; have := Nat.two_pow_pos k; omega)
  rw [Nat.and_two_pow_sub_one_eq_mod, Nat.mod_mod_of_dvd _ (show 2 ^ k ∣ 256 from ⟨2 ^ (8 - k), by rw [← Nat.pow_add, show k + (8 - k) = 8 by omega]⟩)] at h1
  rw [show ((y : Int) % 256) = ((y % 256 : Nat) : Int) by simp, h1]
  simp

theorem p_wrapm {m : Nat} (h : m < 140737488355328) : IntKind.i64.wrap (m : Int) = (m : Int) := by
  rw [IntKind.wrap_i64]
  omega
theorem p_room {q r : Nat} (h : q + r = 8 ∧ q ≤ 8) : IntKind.i64.wrap (8 - (q : Int)) = (r : Int) := by
  rw [IntKind.wrap_i64]
  omega

theorem some_grow {w w1 : World} {B wb n cap : Nat} {ao : Option Addr} {e t : TypeId} {xs : List Value} {C : Array Value} {fr : Nat × Nat} {o : Obj} (hb : w.heap[wb]? = some (.cells C t fr)) (hown : w.ownsRow B e 1 (.slice ao n cap) n xs) (he : e ≠ t)
    (hg : (w.alloc o).grownBy w1 (Value.slice ao n cap).ownBlock) : w1.heap[wb]? = some (.cells C t fr) ∧ Mod (fun k => (Value.slice ao n cap).ownBlock = some k) w w1 := by
  have hm : Mod (fun k => (Value.slice ao n cap).ownBlock = some k) w w1 := Mod.trans ((Ext.refl w).alloc o).mod (Mod.grown_row hg) fun i hi _ => hi
  exact ⟨(hm.block wb (Array.getElem?_eq_some_iff.1 hb).1 (owns_ne_block hown hb he)).trans hb, hm⟩

theorem wpList_grow {P : Program} {ops : Array Oper} {rest : List Oper} {o : Oper} {a : Act} {w : World} {Q : Exit → Act → World → Prop} (hgd : o.guard = none) (s x : Operand) (t : TypeId)
    (ho : o.op = .call { callee := .builtin .append, args := #[s, x], argTypes := #[t, t] }) {e : TypeId} {bytes : Nat} (hE : ElemT P t e 1 bytes) {B wb n cap : Nat} {ao : Option Addr} {xs : List Value} {u v0 v2 v3 : Value} {tt : TypeId}
    (hown : w.ownsRow B e 1 (.slice ao n cap) n xs) (hB : B ≤ wb) (hb : w.heap[wb]? = some (.cells #[v0, .slice ao n cap, v2, v3] tt (0, 0))) (he : e ≠ tt) (h1 : u.oneCell' = true)
    (hs : a.eval s = .slice ao n cap) (hx : a.eval x = .slice (some ⟨w.heap.size, 0, none⟩) 1 1)
    (h63 : n + 1 ≤ 9223372036854775807) (hbytes : (n + 1) * bytes ≤ 140737488355328)
    (h : ∀ g cap' w', w'.heap[wb]? = some (.cells #[v0, .slice ao n cap, v2, v3] tt (0, 0)) → w'.ownsRow B e 1 (.slice (some ⟨g, 0, none⟩) (n + 1) cap') (n + 1) (xs ++ [u]) → Mod (fun k => (Value.slice ao n cap).ownBlock = some k) w w' → ((Value.slice ao n cap).ownBlock = some g ∨ w.heap.size ≤ g) →
      w'.cell? ⟨wb, 1, none⟩ = some (.slice ao n cap) → w'.cell? ⟨wb, 2, none⟩ = some v2 → w'.frozen? ⟨wb, 1, none⟩ = false → w'.frozen? ⟨wb, 2, none⟩ = false → wpList P ops Q rest (a.put o.dst (.slice (some ⟨g, 0, none⟩) (n + 1) cap')) w') :
    wpList P ops Q (o :: rest) a (w.alloc (.cells #[u] e)) := by
  have hl := (Array.getElem?_eq_some_iff.1 hb).1
  obtain ⟨i, z, h2, h3, h4, h5, h6, h7, h8⟩ := hE
  have hlit := owns_lit (w := w) (B := w.heap.size) (n := 1) (size := 1) (e := e) (cs := #[u]) rfl (Nat.le_refl _) (by decide)
  refine wpList_append_lies _ hgd s x t ho B e i z 1 bytes h2 h3 h4 h5 h6 h7 h8 _ n xs hs (owns_ext hown ((Ext.refl w).alloc _)) ⟨w.heap.size, 0, none⟩ 1 1 [u] hx rfl (fun j v hj => World.ownsRow.cells hlit rfl j v hj) (by simpa using h1) (by decide) (by simpa [maxLen] using h63) hbytes (by simp; omega) _ rfl ?_
  intro g cap1 w1 hown1 hgr1 hat _
  obtain ⟨hb1, hm1⟩ := some_grow hb hown he hgr1
  exact h g cap1 w1 hb1 hown1 hm1 (hat.imp id fun e => by rw [e]; simp) (by rw [cell_of_blk hb1]; rfl) (by rw [cell_of_blk hb1]; rfl) (frozen_of_blk hb1 1) (frozen_of_blk hb1 2)

theorem some_open {w : World} {B wb : Nat} {l : List Bool} {err : Int} (h : WrIs w B wb l err) : ∃ a c, l = a ++ c ∧ a.length % 8 = 0 ∧ c.length = l.length % 8 ∧ c.length < 8 :=
  ⟨l.take (l.length / 8 * 8), l.drop (l.length / 8 * 8), (List.take_append_drop _ _).symm, by rw [List.length_take, Nat.min_eq_left (by omega)]; omega, by rw [List.length_drop]; omega, by rw [List.length_drop]; omega⟩

theorem mid_new {w w1 : World} {B wb g n cap cap1 : Nat} {ao : Option Addr} {a : List Bool} {err used : Int} (hn : n = (packed a).length) (ha : a.length % 8 = 0) (hge : B ≤ wb) (hb : w.heap[wb]? = some (.cells #[.bool true, .slice ao n cap, .int .i64 used, .int .i64 err] 61 (0, 0)))
    (hb1 : w1.heap[wb]? = some (.cells #[.bool true, .slice ao n cap, .int .i64 used, .int .i64 err] 61 (0, 0)))
    (hown1 : w1.ownsRow B 5 1 (.slice (some ⟨g, 0, none⟩) (n + 1) cap1) (n + 1) ((packed a).map bv ++ [.int .u8 0])) (hm1 : Mod (fun k => (Value.slice ao n cap).ownBlock = some k) w w1)
    (hat : (Value.slice ao n cap).ownBlock = some g ∨ w.heap.size ≤ g) :
    WrMid ((w1.setCell ⟨wb, 1, none⟩ (.slice (some ⟨g, 0, none⟩) (n + 1) cap1)).setCell ⟨wb, 2, none⟩ (.int .i64 0)) B wb g cap1 a [] err ∧
      WrMod wb w ((w1.setCell ⟨wb, 1, none⟩ (.slice (some ⟨g, 0, none⟩) (n + 1) cap1)).setCell ⟨wb, 2, none⟩ (.int .i64 0)) := by
  subst hn
  have hblk : ((w1.setCell ⟨wb, 1, none⟩ (.slice (some ⟨g, 0, none⟩) ((packed a).length + 1) cap1)).setCell ⟨wb, 2, none⟩ (.int .i64 0)).heap[wb]? = some (.cells #[.bool true, .slice (some ⟨g, 0, none⟩) ((packed a).length + 1) cap1, .int .i64 0, .int .i64 err] 61 (0, 0)) :=
    setCell_blk (setCell_blk hb1)
  have hne := owns_ne_block hown1 hb1 (by decide)
  refine ⟨⟨hblk, hge, ?_, ha, by decide⟩, ?_, ?_⟩
  · have := owns_setCell (p := ⟨wb, 2, none⟩) (u := .int .i64 0) (owns_setCell (p := ⟨wb, 1, none⟩) (u := .slice (some ⟨g, 0, none⟩) ((packed a).length + 1) cap1) hown1 hne) hne
    simpa [bv, byteOf, byteN, val_nil] using this
  · have hm : Mod (WrF w wb) w w1 := hm1.mono fun k _ hk => .inr ⟨_, by rw [cell_of_blk hb]; rfl, hk⟩
    exact Mod.setCell (Mod.setCell hm (fun _ => .inl rfl) _) (fun _ => .inl rfl) _
  · rintro k (rfl | ⟨v, h1, h2⟩) hk
    · exact .inl rfl
    · rw [cell_of_blk hblk] at h1
      simp only [List.size_toArray, List.getElem?_toArray, List.getElem?_cons_succ, List.getElem?_cons_zero, Option.some.injEq] at h1
      subst h1
      obtain rfl : g = k := by simpa [Value.ownBlock] using h2
      rcases hat with hat | hat
      · exact .inr ⟨_, by rw [cell_of_blk hb]; rfl, hat⟩
      · omega
theorem mid_old {w : World} {B wb cap : Nat} {ao : Option Addr} {a c : List Bool} {err : Int} (hc : c ≠ []) (hc8 : c.length < 8) (ha : a.length % 8 = 0) (hge : B ≤ wb)
    (hb : w.heap[wb]? = some (.cells #[.bool true, .slice ao (packed (a ++ c)).length cap, .int .i64 (usedOf (a ++ c) : Int), .int .i64 err] 61 (0, 0)))
    (hown : w.ownsRow B 5 1 (.slice ao (packed (a ++ c)).length cap) (packed (a ++ c)).length ((packed (a ++ c)).map bv)) :
    ∃ g, ao = some ⟨g, 0, none⟩ ∧ (packed (a ++ c)).length = (packed a).length + 1 ∧ WrMid w B wb g cap a c err := by
  have hcl := List.length_pos_iff.2 hc
  have e := packed_snoc ha (Nat.le_of_lt hc8) hc
  have el : (packed (a ++ c)).length = (packed a).length + 1 := by rw [e]; simp
  obtain ⟨g, cap', h1, h2, h3⟩ := World.ownsRow.form hown (by omega)
  simp only [Value.slice.injEq] at h1
  obtain ⟨rfl, _, rfl⟩ := h1
  have hu : usedOf (a ++ c) = c.length := by
    unfold usedOf
    rw [List.length_append]
    rw [if_neg (by omega)]
    omega
  refine ⟨g, rfl, el, ?_⟩
  rw [hu, el] at hb
  rw [el] at hown
  rw [e] at hown
  exact ⟨hb, hge, hown, ha, hc8⟩

/-- Behind the count. -/
structure WrQ (w : World) (B wb g cap : Nat) (a c : List Bool) (q : Nat) (err : Int) : Prop where
  blk : w.heap[wb]? = some (.cells #[.bool true, .slice (some ⟨g, 0, none⟩) ((packed a).length + 1) cap, .int .i64 (q : Int), .int .i64 err] 61 (0, 0))
  ge : B ≤ wb
  own : w.ownsRow B 5 1 (.slice (some ⟨g, 0, none⟩) ((packed a).length + 1) cap) ((packed a).length + 1) ((packed a ++ [byteOf c]).map bv)
  whole : a.length % 8 = 0
  room : c.length < 8
theorem WrQ.c1 {w : World} {B wb g cap : Nat} {a c : List Bool} {q : Nat} {err : Int} (h : WrQ w B wb g cap a c q err) : w.cell? ⟨wb, 1, none⟩ = some (.slice (some ⟨g, 0, none⟩) ((packed a).length + 1) cap) := by rw [cell_of_blk h.blk]; rfl
theorem WrQ.c2 {w : World} {B wb g cap : Nat} {a c : List Bool} {q : Nat} {err : Int} (h : WrQ w B wb g cap a c q err) : w.cell? ⟨wb, 2, none⟩ = some (.int .i64 (q : Int)) := by rw [cell_of_blk h.blk]; rfl
theorem WrQ.cg {w : World} {B wb g cap : Nat} {a c : List Bool} {q : Nat} {err : Int} (h : WrQ w B wb g cap a c q err) : w.cell? ⟨g, (packed a).length, none⟩ = some (.int .u8 (byteN c : Int)) := by
  rw [World.ownsRow.cellAt h.own _ (by omega)]
  simp [bv, byteOf_toNat (Nat.le_of_lt h.room)]
theorem WrQ.fg {w : World} {B wb g cap : Nat} {a c : List Bool} {q : Nat} {err : Int} (h : WrQ w B wb g cap a c q err) : w.frozen? ⟨g, (packed a).length, none⟩ = false := World.ownsRow.frozenAt h.own _
theorem WrQ.ext {w w' : World} {B wb g cap : Nat} {a c : List Bool} {q : Nat} {err : Int} (h : WrQ w B wb g cap a c q err) (hx : Ext w w') : WrQ w' B wb g cap a c q err :=
  ⟨(hx.block wb (Array.getElem?_eq_some_iff.1 h.blk).1 id).trans h.blk, h.ge, owns_ext h.own hx, h.whole, h.room⟩

theorem mid_used {w : World} {B wb g cap k : Nat} {a c : List Bool} {err : Int} (h : WrMid w B wb g cap a c err) (hk : k + c.length ≤ 8) :
    WrQ (w.setCell ⟨wb, 2, none⟩ (.int .i64 ((c.length + k : Nat) : Int))) B wb g cap a c (c.length + k) err ∧ WrMod wb w (w.setCell ⟨wb, 2, none⟩ (.int .i64 ((c.length + k : Nat) : Int))) := by
  have hblk := setCell_blk (j := 2) (v := .int .i64 ((c.length + k : Nat) : Int)) h.blk
  refine ⟨⟨hblk, h.ge, owns_setCell h.own (owns_ne_block h.own h.blk (by decide)), h.whole, h.room⟩, Mod.setCell (Mod.refl _ w) (fun _ => .inl rfl) _, ?_⟩
  rintro i (rfl | ⟨v, h1, h2⟩) hi
  · exact .inl rfl
  · refine .inr ⟨v, ?_, h2⟩
    rw [cell_of_blk h.blk]
    rw [cell_of_blk hblk] at h1
    exact h1

theorem p_all {c : List Bool} {x n k s y bc bd r : Nat} (hk : k + c.length ≤ 8) (hy : y = x / 2 ^ s) (hs : s = n - k) (hkn : k ≤ n) (hbc : bc = byteN c) (hr : r = 8 - (c.length + k)) (hbd : bd = byteN (c ++ (bitsOf x n).take k)) :
    bc ||| (y % 2 ^ k) * 2 ^ r = bd ∧ bc < 256 ∧ (y % 2 ^ k) * 2 ^ r < 256 := by
  have hd : ((bitsOf x n).take k).length = k := by rw [List.length_take, bitsOf_length]; omega
  have hv : y % 2 ^ k = val ((bitsOf x n).take k) := by rw [bitsOf_take x hkn, val_bitsOf, hy, hs, Nat.shiftRight_eq_div_pow]
  have h1 := byteN_lor (c := c) (d := (bitsOf x n).take k) (by rw [hd]; omega)
  rw [hd, ← hv, show 8 - c.length - k = r by omega, ← hbc, ← hbd] at h1
  refine ⟨h1, by rw [hbc]; exact byteN_lt (by omega), ?_⟩
  have h2 : y % 2 ^ k * 2 ^ r < 2 ^ k * 2 ^ r := Nat.mul_lt_mul_of_pos_right (Nat.mod_lt _ (Nat.two_pow_pos _)) (Nat.two_pow_pos _)
  rw [← Nat.pow_add] at h2
  exact Nat.lt_of_lt_of_le h2 (Nat.pow_le_pow_right (j := 8) (n := 2) (by decide) (by omega))

theorem p_shl {y k q r : Nat} (h : y % 2 ^ k * 2 ^ r < 256) (hq : q + r = 8 ∧ q ≤ 8) : IntKind.u8.wrap ((y : Int) % 2 ^ k * 2 ^ min r 8) = (y : Int) % 2 ^ k * 2 ^ r := by
  rw [IntKind.wrap_u8', Nat.min_eq_left (by omega)]
  have e : (y : Int) % 2 ^ k * 2 ^ r = ((y % 2 ^ k * 2 ^ r : Nat) : Int) := by push_cast; rfl
  rw [e]
  omega
theorem p_or {y k r bc bd : Nat} (h : bc ||| (y % 2 ^ k) * 2 ^ r = bd ∧ bc < 256 ∧ (y % 2 ^ k) * 2 ^ r < 256) : bits .or .u8 (bc : Int) ((y : Int) % 2 ^ k * 2 ^ r) = (bd : Int) := by
  have e : (y : Int) % 2 ^ k * 2 ^ r = ((y % 2 ^ k * 2 ^ r : Nat) : Int) := by push_cast; rfl
  rw [e, u8_or_nat _ _ h.2.1 h.2.2, h.1]
theorem wr_done {w : World} {B wb g cap q : Nat} {a c d : List Bool} {err : Int} (h : WrQ w B wb g cap a c q err) (hq : q = c.length + d.length) (hq8 : q ≤ 8) (hd : 0 < d.length) :
    WrIs (w.setCell ⟨g, (packed a).length, none⟩ (.int .u8 (byteN (c ++ d) : Int))) B wb (a ++ c ++ d) err ∧ WrMod wb w (w.setCell ⟨g, (packed a).length, none⟩ (.int .u8 (byteN (c ++ d) : Int))) := by
  have hcd : (c ++ d).length ≤ 8 := by rw [List.length_append]; omega
  have hp : packed (a ++ c ++ d) = packed a ++ [byteOf (c ++ d)] := by
    rw [List.append_assoc]
    exact packed_snoc h.whole hcd (by
      intro e
      have h0 : (c ++ d).length = 0 := by rw [e]; rfl
      rw [List.length_append] at h0
      omega)
  have hne : g ≠ wb := fun e => by
    have := owns_ne_block h.own h.blk (by decide)
    exact this (by rw [e]; rfl)
  have hblk : (w.setCell ⟨g, (packed a).length, none⟩ (.int .u8 (byteN (c ++ d) : Int))).heap[wb]? = _ := (Below.heap_setCell _ ⟨g, (packed a).length, none⟩ _ wb (fun e => hne e.symm)).trans h.blk
  refine ⟨⟨some ⟨g, 0, none⟩, cap, ?_, h.ge, ?_⟩, ?_, ?_⟩
  · rw [hblk, hp]
    have hu : usedOf (a ++ c ++ d) = q := by
      unfold usedOf
      have := h.whole
      have : (a ++ c ++ d).length = a.length + q := by simp; omega
      rw [this]
      split <;> omega
    rw [hu]
    simp
  · have := (World.ownsRow.stored h.own (packed a).length (.int .u8 (byteN (c ++ d) : Int))).1
    rw [hp]
    have e : (((packed a ++ [byteOf c]).map bv).set (packed a).length (.int .u8 (byteN (c ++ d) : Int))) = (packed a ++ [byteOf (c ++ d)]).map bv := by
      rw [List.map_append, List.set_append_right _ _ (by simp)]
      simp [bv, byteOf_toNat hcd]
    rw [e] at this
    simpa using this
  · exact Mod.setCell (Mod.refl _ w) (fun _ => .inr ⟨_, h.c1, rfl⟩) _
  · rintro i (rfl | ⟨v, h1, h2⟩) hi
    · exact .inl rfl
    · refine .inr ⟨v, ?_, h2⟩
      rw [cell_of_blk h.blk]
      rw [cell_of_blk (hblk.trans (by rfl))] at h1
      exact h1

set_option maxRecDepth 100000 in
set_option maxHeartbeats 4000000 in
theorem some_c (wb B : Nat) (l : List Bool) (err : Int) (x n : Nat) (w : World) (h : WrIs w B wb l err) (hn : 0 < n) (hn' : n ≤ 64) (hl : l.length ≤ 1099511627776) :
    Calls Try.prog 37 #[.pointer (some ⟨wb, 0, none⟩), .int .u64 x, .int .i64 n] w fun e w' => e = .returned (.int .i64 ((n - min n (8 - l.length % 8) : Nat) : Int)) ∧
      WrIs w' B wb (l ++ (bitsOf x n).take (min n (8 - l.length % 8))) err ∧ WrMod wb w w' := by
  obtain ⟨a, c, hac, ha8, hcl, hc8⟩ := some_open h
  obtain ⟨u, hu⟩ : ∃ u, u = l.length % 8 := ⟨_, rfl⟩
  rw [← hu] at hcl ⊢
  obtain ⟨k, hk⟩ : ∃ k, k = min n (8 - u) := ⟨_, rfl⟩
  rw [← hk]
  have hk0 : 0 < k := by omega
  have hk8 : k + u ≤ 8 := by omega
  have hkn : k ≤ n := by omega
  have HK8 : Hid (0 < k ∧ k ≤ 8) := Lib.hid (by omega)
  obtain ⟨s, hs⟩ : ∃ s, s = n - k := ⟨_, rfl⟩
  obtain ⟨y, hy⟩ : ∃ y, y = x / 2 ^ s := ⟨_, rfl⟩
  have HS : Hid (IntKind.i64.wrap ((n : Int) - (k : Int)) = (s : Int) ∧ (x : Int) / 2 ^ min s 64 = (y : Int)) := Lib.hid ⟨by rw [hs]; exact p_wrap64 hkn hn', by rw [hy, Nat.min_eq_left (by omega)]; push_cast; rfl⟩
  rw [← hs]
  have HKD := Lib.hid hk
  have HSD := Lib.hid hs
  have HYD := Lib.hid hy
  have HAC := Lib.hid hac
  have HCL := Lib.hid hcl
  have HA8 := Lib.hid ha8
  have HUD := Lib.hid hu
  have HL := Lib.hid hl
  clear hs hy hac hcl ha8 hc8 hl hu
  obtain ⟨ao, cap, hblk, hge, hown⟩ := h
  have HB := Lib.hid hblk
  have HO := Lib.hid hown
  have HGE := Lib.hid hge
  have c1 : w.cell? ⟨wb, 1, none⟩ = some (.slice ao (packed l).length cap) := by rw [cell_of_blk hblk]; rfl
  have f1 := frozen_of_blk hblk 1
  have f2 := frozen_of_blk hblk 2
  have HPL : Hid ((packed l).length + 1 ≤ 9223372036854775807 ∧ ((packed l).length + 1) * 1 ≤ 140737488355328) := Lib.hid (by have := packed_length l; have := HL.out; omega)
  clear hown hge
  by_cases hu0 : u = 0
  focus
    have c2 : w.cell? ⟨wb, 2, none⟩ = some (.int .i64 8) := by
      rw [cell_of_blk hblk]
      have : usedOf l = 8 := by unfold usedOf; rw [if_pos (by have := HUD.out; omega)]
      rw [this]; rfl
    clear hblk
    go_enter Try.func37, Try.ntmps37
    go_upto_region 4 with (first | (at_builtin; refine wpList_grow rfl (.tmp 18) (.tmp 19) 26 rfl etBytes HO.out HGE.out HB.out (by decide) rfl rfl rfl HPL.out.1 HPL.out.2 ?_; intro g cap1 w1 hb1 hown1 hm1 hat k1 k2 f1' f2') | fail)
    have hl0 : l = a := by have := HAC.out; have h0 : c = [] := List.eq_nil_of_length_eq_zero (by rw [HCL.out]; exact hu0); rw [h0, List.append_nil] at this; exact this
    have hc0 : c = [] := List.eq_nil_of_length_eq_zero (by rw [HCL.out]; exact hu0)
    rw [hl0] at hown1
    obtain ⟨hmid, hwm⟩ := mid_new (a := a) (by rw [hl0]) HA8.out HGE.out HB.out hb1 (by rw [hl0]; exact hown1) hm1 hat
    have HMID : Hid (WrMid _ B wb g cap1 a c err) := Lib.hid (by rw [hc0]; exact hmid)
    have HWM := Lib.hid hwm
    clear hmid hwm hb1 hown1 hm1 hat k1 k2 f1' f2' c1 c2 f1 f2 hl0 hc0
    have HU0 := Lib.hid hu0; clear hu0
    generalize (w1.setCell ⟨wb, 1, none⟩ (.slice (some ⟨g, 0, none⟩) ((packed l).length + 1) cap1)).setCell ⟨wb, 2, none⟩ (.int .i64 0) = W2 at HMID HWM ⊢
  rotate_left
  focus
    obtain ⟨g, hg, hpl, hmid⟩ := mid_old (a := a) (c := c) (fun h0 => hu0 (by rw [← HCL.out, h0]; rfl)) (by rw [HCL.out, HUD.out]; omega) HA8.out HGE.out (by rw [← HAC.out]; exact HB.out) (by rw [← HAC.out]; exact HO.out)
    obtain ⟨cap1, hcap1⟩ : ∃ cap1, cap1 = cap := ⟨_, rfl⟩
    rw [← hcap1] at hmid
    have HMID := Lib.hid hmid
    have c2 : w.cell? ⟨wb, 2, none⟩ = some (.int .i64 (u : Int)) := by rw [cell_of_blk hmid.blk, ← HCL.out]; rfl
    have HWM : Hid (WrMod wb w w) := Lib.hid (WrMod.of_ext (Ext.refl w) (Array.getElem?_eq_some_iff.1 HB.out).1)
    clear hblk hmid
    go_enter Try.func37, Try.ntmps37
    go_upto_region 4 with fail
    clear c1 c2 f1 f2 hpl hg hcap1
    have HU0 := Lib.hid hu0; clear hu0
    obtain ⟨W2, hW2⟩ : ∃ W2, W2 = w := ⟨_, rfl⟩
    have HWM : Hid (WrMod wb w W2) := Lib.hid (by rw [hW2]; exact HWM.out)
    rw [← hW2] at HMID ⊢
    clear hW2
  all_goals
    have c2 : W2.cell? ⟨wb, 2, none⟩ = some (.int .i64 (u : Int)) := by rw [cell_of_blk HMID.out.blk, ← HCL.out]; rfl
    have f2 := frozen_of_blk HMID.out.blk 2
    go_wp2_with fail
  all_goals
    first
      | (have hk7 : (8 : Int) - (u : Int) = (k : Int) := by omega
         have HK7 := Lib.hid hk7; clear hk7)
      | (have hk7 : (n : Int) = (k : Int) := by omega
         have HK7 := Lib.hid hk7; clear hk7)
    clear hk
    refine wp_region_rx 10 _
      [ex (.int .u64 (x : Int)),
        ex (.int .i64 (n : Int)),
        ex (.int .i64 (k : Int)),
        ex (.int .i64 (s : Int)),
        ex (.int .u64 (y : Int)),
        ex (.int .u8 ((y % 256 : Nat) : Int)),
        ex (.int .i64 (k : Int)),
        ex (.int .u8 ((2 ^ k % 256 : Nat) : Int)),
        ex (.int .u8 ((2 ^ k - 1 : Nat) : Int)),
        ex (.int .u8 ((y % 2 ^ k : Nat) : Int))]
      (by kernel_rfl) (by kernel_rfl) (by kernel_rfl) rfl ⟨ex_st, ex_st, ex_st, ex_st, ex_st, ex_st, ex_st, ex_st, ex_st, ex_st, trivial⟩ ?_ ?_
    · simp only [List.take_succ_cons, List.take_zero]
      go_tidy
      refine RhOps.mk (RhOp.moveA (by decide) (.free rfl) 1 (fun _ w _ => Ext.refl w) rfl rfl (.int .u64 (x : Int)) rfl (fun _ _ _ => rfl)) ?_
      refine RhOps.mk (RhOp.moveA (by decide) (.free rfl) 2 (fun _ w _ => Ext.refl w) rfl rfl (.int .i64 (n : Int)) rfl (fun _ _ _ => rfl)) ?_
      refine RhOps.mk (RhOp.moveA (by decide) (.free rfl) 7 (fun _ w _ => Ext.refl w) rfl rfl (.int .i64 (k : Int)) (congrArg (Value.int .i64) HK7.out) (fun _ _ _ => rfl)) ?_
      refine RhOps.mk (RhOp.at (by decide) (.free rfl) ?_) ?_
      rotate_left
      refine RhOps.mk (RhOp.at (by decide) (.free rfl) ?_) ?_
      rotate_left
      refine RhOps.mk (RhOp.at (by decide) (.free rfl) ?_) ?_
      rotate_left
      refine RhOps.mk (RhOp.moveA (by decide) (.free rfl) 7 (fun _ w _ => Ext.refl w) rfl rfl (.int .i64 (k : Int)) (congrArg (Value.int .i64) HK7.out) (fun _ _ _ => rfl)) ?_
      refine RhOps.mk (RhOp.at (by decide) (.free rfl) ?_) ?_
      rotate_left
      refine RhOps.mk (RhOp.at (by decide) (.free rfl) ?_) ?_
      rotate_left
      refine RhOps.mk (RhOp.at (by decide) (.free rfl) ?_) ?_
      rotate_left
      exact RhOps.done
      · intro b vals ρ w' hC hd hS
        have r34 : ρ (.tmp 34) = .int .i64 (n : Int) := (hS.tmp 34).trans (hd.at 1 rfl)
        have r35 : ρ (.tmp 35) = .int .i64 (k : Int) := (hS.tmp 35).trans (hd.at 2 rfl)
        refine (show givesR _ _ _ _ (fun v w'' => Ext w' w'' ∧ v = .int .i64 (s : Int)) from ?_)
        clear hC hd hS
        go_simp
        exact ⟨Ext.refl _, HS.out.1⟩
      · intro b vals ρ w' hC hd hS
        have r33 : ρ (.tmp 33) = .int .u64 (x : Int) := (hS.tmp 33).trans (hd.at 0 rfl)
        have r36 : ρ (.tmp 36) = .int .i64 (s : Int) := (hS.tmp 36).trans (hd.at 3 rfl)
        refine (show givesR _ _ _ _ (fun v w'' => Ext w' w'' ∧ v = .int .u64 (y : Int)) from ?_)
        clear hC hd hS
        go_simp
        exact ⟨Ext.refl _, HS.out.2⟩
      · intro b vals ρ w' hC hd hS
        have r37 : ρ (.tmp 37) = .int .u64 (y : Int) := (hS.tmp 37).trans (hd.at 4 rfl)
        refine (show givesR _ _ _ _ (fun v w'' => Ext w' w'' ∧ v = .int .u8 ((y % 256 : Nat) : Int)) from ?_)
        clear hC hd hS
        go_simp
        exact ⟨Ext.refl _, p_wrap8 y⟩
      · intro b vals ρ w' hC hd hS
        have r39 : ρ (.tmp 39) = .int .i64 (k : Int) := (hS.tmp 39).trans (hd.at 6 rfl)
        have rc := hS.const
        refine (show givesR _ _ _ _ (fun v w'' => Ext w' w'' ∧ v = .int .u8 ((2 ^ k % 256 : Nat) : Int)) from ?_)
        clear hC hd hS
        go_simp
        exact ⟨Ext.refl _, p_wrap8' k⟩
      · intro b vals ρ w' hC hd hS
        have r40 : ρ (.tmp 40) = .int .u8 ((2 ^ k % 256 : Nat) : Int) := (hS.tmp 40).trans (hd.at 7 rfl)
        have rc := hS.const
        refine (show givesR _ _ _ _ (fun v w'' => Ext w' w'' ∧ v = .int .u8 ((2 ^ k - 1 : Nat) : Int)) from ?_)
        clear hC hd hS
        go_simp
        exact ⟨Ext.refl _, p_mask HK8.out.1 HK8.out.2⟩
      · intro b vals ρ w' hC hd hS
        have r38 : ρ (.tmp 38) = .int .u8 ((y % 256 : Nat) : Int) := (hS.tmp 38).trans (hd.at 5 rfl)
        have r41 : ρ (.tmp 41) = .int .u8 ((2 ^ k - 1 : Nat) : Int) := (hS.tmp 41).trans (hd.at 8 rfl)
        refine (show givesR _ _ _ _ (fun v w'' => Ext w' w'' ∧ v = .int .u8 ((y % 2 ^ k : Nat) : Int)) from ?_)
        clear hC hd hS
        go_simp
        exact ⟨Ext.refl _, p_and y HK8.out.2⟩
    · intro vals w' hC hV
      have e9 := hV 9 (by decide)
      simp only [vlist, ex, List.getD_cons_zero, List.getD_cons_succ] at e9
      have HC' := Lib.hid hC; clear hC hV
      simp only [List.drop_succ_cons, List.drop_zero]
      clear c2 f2
      have hm := HMID.out.ext HC'.out
      have HWM' := Lib.hid (HWM.out.trans (WrMod.of_ext HC'.out (Array.getElem?_eq_some_iff.1 HMID.out.blk).1))
      have c2 : w'.cell? ⟨wb, 2, none⟩ = some (.int .i64 (u : Int)) := by rw [cell_of_blk hm.blk, ← HCL.out]; rfl
      have f2 := frozen_of_blk hm.blk 2
      have HM := Lib.hid hm; clear hm
      go_upto_region 7 with fail
      clear c2 f2
      first
        | rw [show (u : Int) + (8 - (u : Int)) = ((u + k : Nat) : Int) by have := HK7.out; omega]
        | rw [show (u : Int) + (n : Int) = ((u + k : Nat) : Int) by have := HK7.out; omega]
      obtain ⟨hq1, hq2⟩ := mid_used (k := k) HM.out (by rw [HCL.out]; exact hk8)
      rw [HCL.out] at hq1 hq2
      have HWQ := Lib.hid (HWM'.out.trans hq2)
      generalize w'.setCell ⟨wb, 2, none⟩ (.int .i64 ((u + k : Nat) : Int)) = W7 at hq1 HWQ ⊢
      have HQI := Lib.hid hq1
      clear hq1 hq2 HWM' HC'
      obtain ⟨q, hq⟩ : ∃ q, q = u + k := ⟨_, rfl⟩
      obtain ⟨r, hr⟩ : ∃ r, r = 8 - q := ⟨_, rfl⟩
      obtain ⟨m, hm⟩ : ∃ m, m = (packed a).length := ⟨_, rfl⟩
      obtain ⟨bc, hbc⟩ : ∃ bc, bc = byteN c := ⟨_, rfl⟩
      obtain ⟨bd, hbd⟩ : ∃ bd, bd = byteN (c ++ (bitsOf x n).take k) := ⟨_, rfl⟩
      have c1 := HQI.out.c1
      have c2 := HQI.out.c2
      have cg := HQI.out.cg
      have fg := HQI.out.fg
      rw [← hm] at c1 cg fg
      rw [← hbc] at cg
      rw [← hq] at c2
      have HQ : Hid (q + r = 8 ∧ q ≤ 8) := Lib.hid (by omega)
      have HMC : Hid (m < 140737488355328) := Lib.hid (by have := packed_length a; have := HL.out; have := congrArg List.length HAC.out; rw [List.length_append] at this; omega)
      have HOR : Hid (bc ||| (y % 2 ^ k) * 2 ^ r = bd ∧ bc < 256 ∧ (y % 2 ^ k) * 2 ^ r < 256) := Lib.hid (p_all (by rw [HCL.out]; omega) HYD.out HSD.out hkn hbc (by rw [hr, hq, HCL.out]) hbd)
      have HM0 := Lib.hid hm
      have HBC := Lib.hid hbc
      have HBD := Lib.hid hbd
      have HQD := Lib.hid hq
      clear hm hbc hbd hq hr fg
      refine wp_region_rx 20 _
        [ex (.pointer (some ⟨wb, 0, none⟩)),
          ex (.pointer (some ⟨wb, 0, none⟩)),
          ex (.pointer (some ⟨wb, 1, none⟩)),
          ex (.slice (some ⟨g, 0, none⟩) (m + 1) cap1),
          ex (.pointer (some ⟨wb, 0, none⟩)),
          ex (.pointer (some ⟨wb, 0, none⟩)),
          ex (.pointer (some ⟨wb, 1, none⟩)),
          ex (.slice (some ⟨g, 0, none⟩) (m + 1) cap1),
          ex (.int .i64 ((m + 1 : Nat) : Int)),
          ex (.int .i64 (m : Int)),
          ex (.pointer (some ⟨g, m, none⟩)),
          ex (.int .u8 (bc : Int)),
          ex (.int .u8 ((y % 2 ^ k : Nat) : Int)),
          ex (.pointer (some ⟨wb, 0, none⟩)),
          ex (.pointer (some ⟨wb, 0, none⟩)),
          ex (.pointer (some ⟨wb, 2, none⟩)),
          ex (.int .i64 (q : Int)),
          ex (.int .i64 (r : Int)),
          ex (.int .u8 ((y % 2 ^ k * 2 ^ r : Nat) : Int)),
          ex (.int .u8 (bd : Int))]
        (by kernel_rfl) (by kernel_rfl) (by kernel_rfl) rfl ⟨ex_st, ex_st, ex_st, ex_st, ex_st, ex_st, ex_st, ex_st, ex_st, ex_st, ex_st, ex_st, ex_st, ex_st, ex_st, ex_st, ex_st, ex_st, ex_st, ex_st, trivial⟩ ?_ ?_
      · simp only [List.take_succ_cons, List.take_zero]
        go_tidy
        refine RhOps.mk (RhOp.moveA (by decide) (.free rfl) 0 (fun _ w _ => Ext.refl w) rfl rfl (.pointer (some ⟨wb, 0, none⟩)) rfl (fun _ _ _ => rfl)) ?_
        refine RhOps.mk (RhOp.at (by decide) (.free rfl) ?_) ?_
        rotate_left
        refine RhOps.mk (RhOp.at (by decide) (.free rfl) ?_) ?_
        rotate_left
        refine RhOps.mk (RhOp.at (by decide) (.free rfl) ?_) ?_
        rotate_left
        refine RhOps.mk (RhOp.moveA (by decide) (.free rfl) 0 (fun _ w _ => Ext.refl w) rfl rfl (.pointer (some ⟨wb, 0, none⟩)) rfl (fun _ _ _ => rfl)) ?_
        refine RhOps.mk (RhOp.at (by decide) (.free rfl) ?_) ?_
        rotate_left
        refine RhOps.mk (RhOp.at (by decide) (.free rfl) ?_) ?_
        rotate_left
        refine RhOps.mk (RhOp.at (by decide) (.free rfl) ?_) ?_
        rotate_left
        refine RhOps.mk (RhOp.at (by decide) (.free rfl) ?_) ?_
        rotate_left
        refine RhOps.mk (RhOp.at (by decide) (.free rfl) ?_) ?_
        rotate_left
        refine RhOps.mk (RhOp.at (by decide) (.free rfl) ?_) ?_
        rotate_left
        refine RhOps.mk (RhOp.at (by decide) (.free rfl) ?_) ?_
        rotate_left
        refine RhOps.mk (RhOp.moveA (by decide) (.free rfl) 8 (fun _ w _ => Ext.refl w) rfl rfl (.int .u8 ((y % 2 ^ k : Nat) : Int)) rfl (fun _ _ _ => rfl)) ?_
        refine RhOps.mk (RhOp.moveA (by decide) (.free rfl) 0 (fun _ w _ => Ext.refl w) rfl rfl (.pointer (some ⟨wb, 0, none⟩)) rfl (fun _ _ _ => rfl)) ?_
        refine RhOps.mk (RhOp.at (by decide) (.free rfl) ?_) ?_
        rotate_left
        refine RhOps.mk (RhOp.at (by decide) (.free rfl) ?_) ?_
        rotate_left
        refine RhOps.mk (RhOp.at (by decide) (.free rfl) ?_) ?_
        rotate_left
        refine RhOps.mk (RhOp.at (by decide) (.free rfl) ?_) ?_
        rotate_left
        refine RhOps.mk (RhOp.at (by decide) (.free rfl) ?_) ?_
        rotate_left
        refine RhOps.mk (RhOp.at (by decide) (.free rfl) ?_) ?_
        rotate_left
        exact RhOps.done
        · intro b vals ρ w' hC hd hS
          have r51 : ρ (.tmp 51) = .pointer (some ⟨wb, 0, none⟩) := (hS.tmp 51).trans (hd.at 0 rfl)
          refine (show givesR _ _ _ _ (fun v w'' => Ext w' w'' ∧ v = .pointer (some ⟨wb, 0, none⟩)) from ?_)
          clear hC hd hS
          go_simp
          exact Ext.refl _
        · intro b vals ρ w' hC hd hS
          have r52 : ρ (.tmp 52) = .pointer (some ⟨wb, 0, none⟩) := (hS.tmp 52).trans (hd.at 1 rfl)
          refine (show givesR _ _ _ _ (fun v w'' => Ext w' w'' ∧ v = .pointer (some ⟨wb, 1, none⟩)) from ?_)
          clear hC hd hS
          go_simp
          exact Ext.refl _
        · intro b vals ρ w' hC hd hS
          have r53 : ρ (.tmp 53) = .pointer (some ⟨wb, 1, none⟩) := (hS.tmp 53).trans (hd.at 2 rfl)
          have qc := hC.cell c1
          refine (show givesR _ _ _ _ (fun v w'' => Ext w' w'' ∧ v = .slice (some ⟨g, 0, none⟩) (m + 1) cap1) from ?_)
          clear hC hd hS
          go_simp
          exact Ext.refl _
        · intro b vals ρ w' hC hd hS
          have r55 : ρ (.tmp 55) = .pointer (some ⟨wb, 0, none⟩) := (hS.tmp 55).trans (hd.at 4 rfl)
          refine (show givesR _ _ _ _ (fun v w'' => Ext w' w'' ∧ v = .pointer (some ⟨wb, 0, none⟩)) from ?_)
          clear hC hd hS
          go_simp
          exact Ext.refl _
        · intro b vals ρ w' hC hd hS
          have r56 : ρ (.tmp 56) = .pointer (some ⟨wb, 0, none⟩) := (hS.tmp 56).trans (hd.at 5 rfl)
          refine (show givesR _ _ _ _ (fun v w'' => Ext w' w'' ∧ v = .pointer (some ⟨wb, 1, none⟩)) from ?_)
          clear hC hd hS
          go_simp
          exact Ext.refl _
        · intro b vals ρ w' hC hd hS
          have r57 : ρ (.tmp 57) = .pointer (some ⟨wb, 1, none⟩) := (hS.tmp 57).trans (hd.at 6 rfl)
          have qc := hC.cell c1
          refine (show givesR _ _ _ _ (fun v w'' => Ext w' w'' ∧ v = .slice (some ⟨g, 0, none⟩) (m + 1) cap1) from ?_)
          clear hC hd hS
          go_simp
          exact Ext.refl _
        · intro b vals ρ w' hC hd hS
          have r58 : ρ (.tmp 58) = .slice (some ⟨g, 0, none⟩) (m + 1) cap1 := (hS.tmp 58).trans (hd.at 7 rfl)
          refine (show givesR _ _ _ _ (fun v w'' => Ext w' w'' ∧ v = .int .i64 ((m + 1 : Nat) : Int)) from ?_)
          clear hC hd hS
          go_simp
          exact Ext.refl _
        · intro b vals ρ w' hC hd hS
          have r59 : ρ (.tmp 59) = .int .i64 ((m + 1 : Nat) : Int) := (hS.tmp 59).trans (hd.at 8 rfl)
          have rc := hS.const
          refine (show givesR _ _ _ _ (fun v w'' => Ext w' w'' ∧ v = .int .i64 (m : Int)) from ?_)
          clear hC hd hS
          go_simp
          exact ⟨Ext.refl _, p_wrapm HMC.out⟩
        · intro b vals ρ w' hC hd hS
          have r54 : ρ (.tmp 54) = .slice (some ⟨g, 0, none⟩) (m + 1) cap1 := (hS.tmp 54).trans (hd.at 3 rfl)
          have r60 : ρ (.tmp 60) = .int .i64 (m : Int) := (hS.tmp 60).trans (hd.at 9 rfl)
          refine (show givesR _ _ _ _ (fun v w'' => Ext w' w'' ∧ v = .pointer (some ⟨g, m, none⟩)) from ?_)
          have hml : (m : Int) < (m : Int) + 1 := by omega
          clear hC hd hS
          go_simp
          exact Ext.refl _
        · intro b vals ρ w' hC hd hS
          have r61 : ρ (.tmp 61) = .pointer (some ⟨g, m, none⟩) := (hS.tmp 61).trans (hd.at 10 rfl)
          have qc := hC.cell cg
          refine (show givesR _ _ _ _ (fun v w'' => Ext w' w'' ∧ v = .int .u8 (bc : Int)) from ?_)
          clear hC hd hS
          go_simp
          exact Ext.refl _
        · intro b vals ρ w' hC hd hS
          have r64 : ρ (.tmp 64) = .pointer (some ⟨wb, 0, none⟩) := (hS.tmp 64).trans (hd.at 13 rfl)
          refine (show givesR _ _ _ _ (fun v w'' => Ext w' w'' ∧ v = .pointer (some ⟨wb, 0, none⟩)) from ?_)
          clear hC hd hS
          go_simp
          exact Ext.refl _
        · intro b vals ρ w' hC hd hS
          have r65 : ρ (.tmp 65) = .pointer (some ⟨wb, 0, none⟩) := (hS.tmp 65).trans (hd.at 14 rfl)
          refine (show givesR _ _ _ _ (fun v w'' => Ext w' w'' ∧ v = .pointer (some ⟨wb, 2, none⟩)) from ?_)
          clear hC hd hS
          go_simp
          exact Ext.refl _
        · intro b vals ρ w' hC hd hS
          have r66 : ρ (.tmp 66) = .pointer (some ⟨wb, 2, none⟩) := (hS.tmp 66).trans (hd.at 15 rfl)
          have qc := hC.cell c2
          refine (show givesR _ _ _ _ (fun v w'' => Ext w' w'' ∧ v = .int .i64 (q : Int)) from ?_)
          clear hC hd hS
          go_simp
          exact Ext.refl _
        · intro b vals ρ w' hC hd hS
          have r67 : ρ (.tmp 67) = .int .i64 (q : Int) := (hS.tmp 67).trans (hd.at 16 rfl)
          have rc := hS.const
          refine (show givesR _ _ _ _ (fun v w'' => Ext w' w'' ∧ v = .int .i64 (r : Int)) from ?_)
          clear hC hd hS
          go_simp
          exact ⟨Ext.refl _, p_room HQ.out⟩
        · intro b vals ρ w' hC hd hS
          have r63 : ρ (.tmp 63) = .int .u8 ((y % 2 ^ k : Nat) : Int) := (hS.tmp 63).trans (hd.at 12 rfl)
          have r68 : ρ (.tmp 68) = .int .i64 (r : Int) := (hS.tmp 68).trans (hd.at 17 rfl)
          refine (show givesR _ _ _ _ (fun v w'' => Ext w' w'' ∧ v = .int .u8 ((y % 2 ^ k * 2 ^ r : Nat) : Int)) from ?_)
          clear hC hd hS
          go_simp
          exact ⟨Ext.refl _, p_shl HOR.out.2.2 HQ.out⟩
        · intro b vals ρ w' hC hd hS
          have r62 : ρ (.tmp 62) = .int .u8 (bc : Int) := (hS.tmp 62).trans (hd.at 11 rfl)
          have r69 : ρ (.tmp 69) = .int .u8 ((y % 2 ^ k * 2 ^ r : Nat) : Int) := (hS.tmp 69).trans (hd.at 18 rfl)
          refine (show givesR _ _ _ _ (fun v w'' => Ext w' w'' ∧ v = .int .u8 (bd : Int)) from ?_)
          clear hC hd hS
          go_simp
          exact ⟨Ext.refl _, p_or HOR.out⟩
      · intro vals w' hC hV
        have e3 := hV 3 (by decide)
        have e9 := hV 9 (by decide)
        have e10 := hV 10 (by decide)
        have e19 := hV 19 (by decide)
        simp only [vlist, ex, List.getD_cons_zero, List.getD_cons_succ] at e3 e9 e10 e19
        have HC' := Lib.hid hC; clear hC hV
        simp only [List.drop_succ_cons, List.drop_zero]
        have hq7 := HQI.out.ext HC'.out
        have HWZ := Lib.hid (HWQ.out.trans (WrMod.of_ext HC'.out (Array.getElem?_eq_some_iff.1 HQI.out.blk).1))
        clear c1 c2 cg
        have cg : w'.cell? ⟨g, m, none⟩ = some (.int .u8 (bc : Int)) := by rw [HBC.out, HM0.out]; exact hq7.cg
        have fg : w'.frozen? ⟨g, m, none⟩ = false := by rw [HM0.out]; exact hq7.fg
        have HQ7 := Lib.hid hq7
        have hml : (m : Int) < (m : Int) + 1 := by omega
        clear hq7
        go_wp2_with fail
        go_ret
        have hd : ((bitsOf x n).take k).length = k := by rw [List.length_take, bitsOf_length]; omega
        have hfin := wr_done (d := (bitsOf x n).take k) HQ7.out (by rw [hd, HCL.out]) (by omega) (by rw [hd]; exact hk0)
        rw [← HAC.out, ← HBD.out, ← HM0.out] at hfin
        refine ⟨?_, hfin.1, HWZ.out.trans hfin.2⟩
        have := HK7.out
        have := HSD.out
        refine congrArg (fun z : Int => Ending.returned (Value.int .i64 z)) ?_
        omega

end Go.Proofs.Ytlfnpbpbgncbpaa
