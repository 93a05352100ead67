/- inode: what bytes are. -/
import Derived.Test.YtophabekaicdeaaI3

set_option linter.unusedVariables false
set_option linter.unusedSimpArgs false
namespace Go.Proofs.Ytophabekaicdeaa
open Go.RowKit

theorem of_128 {l : List UInt8} (h : ((l.length : Int) != 128) = false) : l.length = 128 := by
  simp at h; omega
theorem kn_128 {l : List UInt8} (h : ((l.length : Int) != 128) = false) {a : Int} (ha : a ≤ 1024) : a ≤ ((bitKS l).n : Int) := by
  have := of_128 h
  show a ≤ ((8 * l.length : Nat) : Int)
  omega
theorem RS.num_in (s : RS) (n : Int) : 0 ≤ (s.num n : Int) ∧ (s.num n : Int) < 18446744073709551616 := by
  refine ⟨Int.natCast_nonneg _, ?_⟩
  unfold RS.num getV
  split
  · rename_i h
    have h1 : (bitsFrom s.l s.at' n.toNat).length ≤ n.toNat := by unfold bitsFrom; exact List.length_take_le _ _
    have h2 := val_lt (bitsFrom s.l s.at' n.toNat)
    have h3 : 2 ^ (bitsFrom s.l s.at' n.toNat).length ≤ 2 ^ 64 := Nat.pow_le_pow_right (by decide) (by omega)
    have : val (bitsFrom s.l s.at' n.toNat) < 2 ^ 64 := Nat.lt_of_lt_of_le h2 h3
    have e : (2 : Nat) ^ 64 = 18446744073709551616 := by decide
    rw [e] at this
    omega
  · decide
def dG0 (l : List UInt8) : RS := .new l
def dG1 (l : List UInt8) : RS := (dG0 l).get 2
def dG2 (l : List UInt8) : RS := (dG1 l).get 31
def dG3 (l : List UInt8) : RS := (dG2 l).get 40
def dG4 (l : List UInt8) : RS := (dG3 l).get 12
def dG5 (l : List UInt8) : RS := (dG4 l).get 12
def dG6 (l : List UInt8) : RS := (dG5 l).get 12
def dG7 (l : List UInt8) : RS := (dG6 l).get 12
def dG8 (l : List UInt8) : RS := (dG7 l).get 12
def dG9 (l : List UInt8) : RS := (dG8 l).get 12
def dG10 (l : List UInt8) : RS := (dG9 l).get 12
def dG11 (l : List UInt8) : RS := (dG10 l).get 12
def rawD (l : List UInt8) : Ino := ⟨IntKind.i64.wrap ((dG0 l).num 2 : Int), IntKind.i64.wrap ((dG1 l).num 31 : Int), ((dG2 l).num 40 : Int), IntKind.i64.wrap ((dG3 l).num 12 : Int), IntKind.i64.wrap ((dG4 l).num 12 : Int), IntKind.i64.wrap ((dG5 l).num 12 : Int), IntKind.i64.wrap ((dG6 l).num 12 : Int), IntKind.i64.wrap ((dG7 l).num 12 : Int), IntKind.i64.wrap ((dG8 l).num 12 : Int), IntKind.i64.wrap ((dG9 l).num 12 : Int), IntKind.i64.wrap ((dG10 l).num 12 : Int)⟩
def badD (l : List UInt8) : Bool := ((dG11 l).err != 0 || encE (rawD l) != 0) || !decide (l = encL (rawD l))
def decI (l : List UInt8) : Ino := ⟨cond (badD l) 0 (rawD l).kd, cond (badD l) 0 (rawD l).gn, cond (badD l) 0 (rawD l).ve, cond (badD l) 0 (rawD l).b0, cond (badD l) 0 (rawD l).b1, cond (badD l) 0 (rawD l).b2, cond (badD l) 0 (rawD l).b3, cond (badD l) 0 (rawD l).b4, cond (badD l) 0 (rawD l).b5, cond (badD l) 0 (rawD l).b6, cond (badD l) 0 (rawD l).b7⟩
def decIE (l : List UInt8) : Int := cond (badD l) 4 0
set_option maxRecDepth 100000 in
theorem idec_c (l : List UInt8) (h0 : l.length ≤ 100000) (u : Value) (w : World) (hb : Bs w u l) : Calls Try.prog 22 #[u] w fun e w' => e = .returned (.tuple #[.agg #[.int .i64 (decI l).kd, .int .i64 (decI l).gn, .int .u64 (decI l).ve, .int .i64 (decI l).b0, .int .i64 (decI l).b1, .int .i64 (decI l).b2, .int .i64 (decI l).b3, .int .i64 (decI l).b4, .int .i64 (decI l).b5, .int .i64 (decI l).b6, .int .i64 (decI l).b7], .int .i64 (decIE l)]) ∧ Ext w w' :=
  conR (S := (⟨Try.prog, [(F_open (hx := hz) : Nat × Fn2 Tu), (F_get (hx := hz) : Nat × Fn2 Tu), F_ienc, (F_err : Nat × Fn2 Tu), (F_equal : Nat × Fn2 Tu)], [], thHo hz, Iu.one, 40⟩ : Sy Tu)) (I := Iu) (L := []) (args := [.one (.obj 0)]) (us := [u]) (e := [u]) (mem := [⟨.us (.byt l), false⟩]) (SyOk.mk2 Try.mixed (thHo_ok hz) (FnsR.cons (F_open_ok (J := noI) (hx := hz)) (FnsR.cons (F_get_ok (J := noI) (hx := hz)) (FnsR.cons F_ienc_ok (FnsR.cons (F_err_ok (J := noI) (hx := hz)) (FnsR.cons (F_equal_ok (J := noI) (hx := hz)) (FnsR.nil)))))) (EqsOk.nil)) Try.func22 (by kernel_rfl) (LpsOk.nil _) (args_byt (J := noI) (args_nil _ w) (fun n h => by cases h) hb) (fun n hn => by simp at hn; subst hn; rfl) ⟨rfl, trivial⟩ (by kernel_rfl) nil_u (noSh) (by kernel_rfl) [l.length ≤ (100000 : Nat), (0 : Int) ≤ (↑((((RS.new l).get (2 : Int)).get (31 : Int)).num (40 : Int)) : Int) ∧ (↑((((RS.new l).get (2 : Int)).get (31 : Int)).num (40 : Int)) : Int) < (18446744073709551616 : Int)] (by kernel_rfl) ((by
    repeat' (first | exact mnil | refine mcons ?_ ?_)
    all_goals first
      | exact h0
      | exact RS.num_in _ _
    ))
def F_idec : Nat × Fn2 Tu := (22, rowB fun l => some ([l.length ≤ 100000], .tuple #[.agg #[.int .i64 (decI l).kd, .int .i64 (decI l).gn, .int .u64 (decI l).ve, .int .i64 (decI l).b0, .int .i64 (decI l).b1, .int .i64 (decI l).b2, .int .i64 (decI l).b3, .int .i64 (decI l).b4, .int .i64 (decI l).b5, .int .i64 (decI l).b6, .int .i64 (decI l).b7], .int .i64 (decIE l)]))
theorem F_idec_ok : RowOk Try.prog Iu (hardT hz) F_idec.1 F_idec.2 := by
  refine rowB_ok Try.call22 fun l ps v hs hp u w hb => ?_
  simp only [Option.some.injEq, Prod.mk.injEq] at hs
  obtain ⟨rfl, rfl⟩ := hs
  exact idec_c l (hp _ (by simp)) u w hb
def qB (l : List UInt8) (a b : Nat) : Nat := val (((bitsAll l).drop a).take (b - a))
theorem qB_in (l : List UInt8) (a b : Nat) (h : b - a ≤ 64) : (qB l a b : Int) < 18446744073709551616 := by
  unfold qB
  have h1 := val_lt (((bitsAll l).drop a).take (b - a))
  have h2 : (((bitsAll l).drop a).take (b - a)).length ≤ b - a := List.length_take_le _ _
  have h3 : 2 ^ (((bitsAll l).drop a).take (b - a)).length ≤ 2 ^ 64 := Nat.pow_le_pow_right (by decide) (by omega)
  have e : (2 : Nat) ^ 64 = 18446744073709551616 := by decide
  rw [e] at h3
  omega
def rrawD (l : List UInt8) : Ino := ⟨IntKind.i64.wrap (qB l 0 2 : Int), IntKind.i64.wrap (qB l 2 33 : Int), (qB l 33 73 : Int), IntKind.i64.wrap (qB l 73 85 : Int), IntKind.i64.wrap (qB l 85 97 : Int), IntKind.i64.wrap (qB l 97 109 : Int), IntKind.i64.wrap (qB l 109 121 : Int), IntKind.i64.wrap (qB l 121 133 : Int), IntKind.i64.wrap (qB l 133 145 : Int), IntKind.i64.wrap (qB l 145 157 : Int), IntKind.i64.wrap (qB l 157 169 : Int)⟩
def rbadD (l : List UInt8) : Bool := rencE (rrawD l) != 0 || !decide (l = rencL (rrawD l))
def rdecI (l : List UInt8) : Ino := ⟨cond ((l.length : Int) != 128) 0 (cond (rbadD l) 0 (rrawD l).kd), cond ((l.length : Int) != 128) 0 (cond (rbadD l) 0 (rrawD l).gn), cond ((l.length : Int) != 128) 0 (cond (rbadD l) 0 (rrawD l).ve), cond ((l.length : Int) != 128) 0 (cond (rbadD l) 0 (rrawD l).b0), cond ((l.length : Int) != 128) 0 (cond (rbadD l) 0 (rrawD l).b1), cond ((l.length : Int) != 128) 0 (cond (rbadD l) 0 (rrawD l).b2), cond ((l.length : Int) != 128) 0 (cond (rbadD l) 0 (rrawD l).b3), cond ((l.length : Int) != 128) 0 (cond (rbadD l) 0 (rrawD l).b4), cond ((l.length : Int) != 128) 0 (cond (rbadD l) 0 (rrawD l).b5), cond ((l.length : Int) != 128) 0 (cond (rbadD l) 0 (rrawD l).b6), cond ((l.length : Int) != 128) 0 (cond (rbadD l) 0 (rrawD l).b7)⟩
def rdecIE (l : List UInt8) : Int := cond ((l.length : Int) != 128) 4 (cond (rbadD l) 4 0)
set_option maxRecDepth 100000 in
theorem ridec_c (l : List UInt8) (h0 : l.length ≤ 100000) (u : Value) (w : World) (hb : Bs w u l) : Calls Try.prog 23 #[u] w fun e w' => e = .returned (.tuple #[.agg #[.int .i64 (rdecI l).kd, .int .i64 (rdecI l).gn, .int .u64 (rdecI l).ve, .int .i64 (rdecI l).b0, .int .i64 (rdecI l).b1, .int .i64 (rdecI l).b2, .int .i64 (rdecI l).b3, .int .i64 (rdecI l).b4, .int .i64 (rdecI l).b5, .int .i64 (rdecI l).b6, .int .i64 (rdecI l).b7], .int .i64 (rdecIE l)]) ∧ Ext w w' :=
  conR (S := (⟨Try.prog, [(F_rof (hx := hz) : Nat × Fn2 Tu), (F_rnum : Nat × Fn2 Tu), F_rienc, (F_rsame : Nat × Fn2 Tu)], [], thHo hz, Iu.one, 40⟩ : Sy Tu)) (I := Iu) (L := []) (args := [.one (.obj 0)]) (us := [u]) (e := [u]) (mem := [⟨.us (.byt l), false⟩]) (SyOk.mk2 Try.mixed (thHo_ok hz) (FnsR.cons (F_rof_ok (J := noI) (hx := hz)) (FnsR.cons (F_rnum_ok (J := noI) (hx := hz)) (FnsR.cons F_rienc_ok (FnsR.cons (F_rsame_ok (J := noI) (hx := hz)) (FnsR.nil))))) (EqsOk.nil)) Try.func23 (by kernel_rfl) (LpsOk.nil _) (args_byt (J := noI) (args_nil _ w) (fun n h => by cases h) hb) (fun n hn => by simp at hn; subst hn; rfl) ⟨rfl, trivial⟩ (by kernel_rfl) nil_u (noSh) (by kernel_rfl) [((↑l.length : Int) != (128 : Int)) = false → l.length ≤ (100000 : Nat), ((↑l.length : Int) != (128 : Int)) = false → (List.take (Int.toNat (73 : Int) - Int.toNat (33 : Int)) (List.drop (Int.toNat (33 : Int)) (bitsAll l))).length ≤ (64 : Nat), ((↑l.length : Int) != (128 : Int)) = false → (KS.mk 1 ((8 : Nat) * l.length) fun i => [PV.v (Value.int IntKind.u8 (↑((bbs (bitsAll l)).getD i (0 : UInt8)).toNat : Int))]) = KS.mk 1 ((8 : Nat) * l.length) fun i => [PV.v (Value.int IntKind.u8 (↑((bbs (bitsAll l)).getD i (0 : UInt8)).toNat : Int))], ((↑l.length : Int) != (128 : Int)) = false → (0 : Int) ≤ (33 : Int) ∧ (33 : Int) ≤ (73 : Int) ∧ (73 : Int) ≤ (↑(bitKS l).n : Int), ((↑l.length : Int) != (128 : Int)) = false → (List.take (Int.toNat (33 : Int) - Int.toNat (2 : Int)) (List.drop (Int.toNat (2 : Int)) (bitsAll l))).length ≤ (64 : Nat), ((↑l.length : Int) != (128 : Int)) = false → (KS.mk 1 ((8 : Nat) * l.length) fun i => [PV.v (Value.int IntKind.u8 (↑((bbs (bitsAll l)).getD i (0 : UInt8)).toNat : Int))]) = KS.mk 1 ((8 : Nat) * l.length) fun i => [PV.v (Value.int IntKind.u8 (↑((bbs (bitsAll l)).getD i (0 : UInt8)).toNat : Int))], ((↑l.length : Int) != (128 : Int)) = false → (0 : Int) ≤ (2 : Int) ∧ (2 : Int) ≤ (33 : Int) ∧ (33 : Int) ≤ (↑(bitKS l).n : Int), ((↑l.length : Int) != (128 : Int)) = false → (List.take (Int.toNat (2 : Int) - Int.toNat (0 : Int)) (List.drop (Int.toNat (0 : Int)) (bitsAll l))).length ≤ (64 : Nat), ((↑l.length : Int) != (128 : Int)) = false → (KS.mk 1 ((8 : Nat) * l.length) fun i => [PV.v (Value.int IntKind.u8 (↑((bbs (bitsAll l)).getD i (0 : UInt8)).toNat : Int))]) = KS.mk 1 ((8 : Nat) * l.length) fun i => [PV.v (Value.int IntKind.u8 (↑((bbs (bitsAll l)).getD i (0 : UInt8)).toNat : Int))], ((↑l.length : Int) != (128 : Int)) = false → (0 : Int) ≤ (0 : Int) ∧ (0 : Int) ≤ (2 : Int) ∧ (2 : Int) ≤ (↑(bitKS l).n : Int), ((↑l.length : Int) != (128 : Int)) = false → (List.take ((Int.ofNat (nat_lit 84 + (1 : Nat))).toNat - (Int.ofNat (nat_lit 72 + (1 : Nat))).toNat) (List.drop (Int.ofNat (nat_lit 72 + (1 : Nat))).toNat (bitsAll l))).length ≤ (64 : Nat), ((↑l.length : Int) != (128 : Int)) = false → (KS.mk 1 ((8 : Nat) * l.length) fun i => [PV.v (Value.int IntKind.u8 (↑((bbs (bitsAll l)).getD i (0 : UInt8)).toNat : Int))]) = KS.mk 1 ((8 : Nat) * l.length) fun i => [PV.v (Value.int IntKind.u8 (↑((bbs (bitsAll l)).getD i (0 : UInt8)).toNat : Int))], ((↑l.length : Int) != (128 : Int)) = false → (0 : Int) ≤ Int.ofNat (nat_lit 72 + (1 : Nat)) ∧ Int.ofNat (nat_lit 72 + (1 : Nat)) ≤ Int.ofNat (nat_lit 84 + (1 : Nat)) ∧ Int.ofNat (nat_lit 84 + (1 : Nat)) ≤ (↑(bitKS l).n : Int), ((↑l.length : Int) != (128 : Int)) = false → (List.take ((Int.ofNat (nat_lit 96 + (1 : Nat))).toNat - (Int.ofNat (nat_lit 84 + (1 : Nat))).toNat) (List.drop (Int.ofNat (nat_lit 84 + (1 : Nat))).toNat (bitsAll l))).length ≤ (64 : Nat), ((↑l.length : Int) != (128 : Int)) = false → (KS.mk 1 ((8 : Nat) * l.length) fun i => [PV.v (Value.int IntKind.u8 (↑((bbs (bitsAll l)).getD i (0 : UInt8)).toNat : Int))]) = KS.mk 1 ((8 : Nat) * l.length) fun i => [PV.v (Value.int IntKind.u8 (↑((bbs (bitsAll l)).getD i (0 : UInt8)).toNat : Int))], ((↑l.length : Int) != (128 : Int)) = false → (0 : Int) ≤ Int.ofNat (nat_lit 84 + (1 : Nat)) ∧ Int.ofNat (nat_lit 84 + (1 : Nat)) ≤ Int.ofNat (nat_lit 96 + (1 : Nat)) ∧ Int.ofNat (nat_lit 96 + (1 : Nat)) ≤ (↑(bitKS l).n : Int), ((↑l.length : Int) != (128 : Int)) = false → (List.take ((Int.ofNat (nat_lit 108 + (1 : Nat))).toNat - (Int.ofNat (nat_lit 96 + (1 : Nat))).toNat) (List.drop (Int.ofNat (nat_lit 96 + (1 : Nat))).toNat (bitsAll l))).length ≤ (64 : Nat), ((↑l.length : Int) != (128 : Int)) = false → (KS.mk 1 ((8 : Nat) * l.length) fun i => [PV.v (Value.int IntKind.u8 (↑((bbs (bitsAll l)).getD i (0 : UInt8)).toNat : Int))]) = KS.mk 1 ((8 : Nat) * l.length) fun i => [PV.v (Value.int IntKind.u8 (↑((bbs (bitsAll l)).getD i (0 : UInt8)).toNat : Int))], ((↑l.length : Int) != (128 : Int)) = false → (0 : Int) ≤ Int.ofNat (nat_lit 96 + (1 : Nat)) ∧ Int.ofNat (nat_lit 96 + (1 : Nat)) ≤ Int.ofNat (nat_lit 108 + (1 : Nat)) ∧ Int.ofNat (nat_lit 108 + (1 : Nat)) ≤ (↑(bitKS l).n : Int), ((↑l.length : Int) != (128 : Int)) = false → (List.take ((Int.ofNat (nat_lit 120 + (1 : Nat))).toNat - (Int.ofNat (nat_lit 108 + (1 : Nat))).toNat) (List.drop (Int.ofNat (nat_lit 108 + (1 : Nat))).toNat (bitsAll l))).length ≤ (64 : Nat), ((↑l.length : Int) != (128 : Int)) = false → (KS.mk 1 ((8 : Nat) * l.length) fun i => [PV.v (Value.int IntKind.u8 (↑((bbs (bitsAll l)).getD i (0 : UInt8)).toNat : Int))]) = KS.mk 1 ((8 : Nat) * l.length) fun i => [PV.v (Value.int IntKind.u8 (↑((bbs (bitsAll l)).getD i (0 : UInt8)).toNat : Int))], ((↑l.length : Int) != (128 : Int)) = false → (0 : Int) ≤ Int.ofNat (nat_lit 108 + (1 : Nat)) ∧ Int.ofNat (nat_lit 108 + (1 : Nat)) ≤ Int.ofNat (nat_lit 120 + (1 : Nat)) ∧ Int.ofNat (nat_lit 120 + (1 : Nat)) ≤ (↑(bitKS l).n : Int), ((↑l.length : Int) != (128 : Int)) = false → (List.take ((Int.ofNat (nat_lit 132 + (1 : Nat))).toNat - (Int.ofNat (nat_lit 120 + (1 : Nat))).toNat) (List.drop (Int.ofNat (nat_lit 120 + (1 : Nat))).toNat (bitsAll l))).length ≤ (64 : Nat), ((↑l.length : Int) != (128 : Int)) = false → (KS.mk 1 ((8 : Nat) * l.length) fun i => [PV.v (Value.int IntKind.u8 (↑((bbs (bitsAll l)).getD i (0 : UInt8)).toNat : Int))]) = KS.mk 1 ((8 : Nat) * l.length) fun i => [PV.v (Value.int IntKind.u8 (↑((bbs (bitsAll l)).getD i (0 : UInt8)).toNat : Int))], ((↑l.length : Int) != (128 : Int)) = false → (0 : Int) ≤ Int.ofNat (nat_lit 120 + (1 : Nat)) ∧ Int.ofNat (nat_lit 120 + (1 : Nat)) ≤ Int.ofNat (nat_lit 132 + (1 : Nat)) ∧ Int.ofNat (nat_lit 132 + (1 : Nat)) ≤ (↑(bitKS l).n : Int), ((↑l.length : Int) != (128 : Int)) = false → (List.take ((Int.ofNat (nat_lit 144 + (1 : Nat))).toNat - (Int.ofNat (nat_lit 132 + (1 : Nat))).toNat) (List.drop (Int.ofNat (nat_lit 132 + (1 : Nat))).toNat (bitsAll l))).length ≤ (64 : Nat), ((↑l.length : Int) != (128 : Int)) = false → (KS.mk 1 ((8 : Nat) * l.length) fun i => [PV.v (Value.int IntKind.u8 (↑((bbs (bitsAll l)).getD i (0 : UInt8)).toNat : Int))]) = KS.mk 1 ((8 : Nat) * l.length) fun i => [PV.v (Value.int IntKind.u8 (↑((bbs (bitsAll l)).getD i (0 : UInt8)).toNat : Int))], ((↑l.length : Int) != (128 : Int)) = false → (0 : Int) ≤ Int.ofNat (nat_lit 132 + (1 : Nat)) ∧ Int.ofNat (nat_lit 132 + (1 : Nat)) ≤ Int.ofNat (nat_lit 144 + (1 : Nat)) ∧ Int.ofNat (nat_lit 144 + (1 : Nat)) ≤ (↑(bitKS l).n : Int), ((↑l.length : Int) != (128 : Int)) = false → (List.take ((Int.ofNat (nat_lit 156 + (1 : Nat))).toNat - (Int.ofNat (nat_lit 144 + (1 : Nat))).toNat) (List.drop (Int.ofNat (nat_lit 144 + (1 : Nat))).toNat (bitsAll l))).length ≤ (64 : Nat), ((↑l.length : Int) != (128 : Int)) = false → (KS.mk 1 ((8 : Nat) * l.length) fun i => [PV.v (Value.int IntKind.u8 (↑((bbs (bitsAll l)).getD i (0 : UInt8)).toNat : Int))]) = KS.mk 1 ((8 : Nat) * l.length) fun i => [PV.v (Value.int IntKind.u8 (↑((bbs (bitsAll l)).getD i (0 : UInt8)).toNat : Int))], ((↑l.length : Int) != (128 : Int)) = false → (0 : Int) ≤ Int.ofNat (nat_lit 144 + (1 : Nat)) ∧ Int.ofNat (nat_lit 144 + (1 : Nat)) ≤ Int.ofNat (nat_lit 156 + (1 : Nat)) ∧ Int.ofNat (nat_lit 156 + (1 : Nat)) ≤ (↑(bitKS l).n : Int), ((↑l.length : Int) != (128 : Int)) = false → (List.take ((Int.ofNat (nat_lit 168 + (1 : Nat))).toNat - (Int.ofNat (nat_lit 156 + (1 : Nat))).toNat) (List.drop (Int.ofNat (nat_lit 156 + (1 : Nat))).toNat (bitsAll l))).length ≤ (64 : Nat), ((↑l.length : Int) != (128 : Int)) = false → (KS.mk 1 ((8 : Nat) * l.length) fun i => [PV.v (Value.int IntKind.u8 (↑((bbs (bitsAll l)).getD i (0 : UInt8)).toNat : Int))]) = KS.mk 1 ((8 : Nat) * l.length) fun i => [PV.v (Value.int IntKind.u8 (↑((bbs (bitsAll l)).getD i (0 : UInt8)).toNat : Int))], ((↑l.length : Int) != (128 : Int)) = false → (0 : Int) ≤ Int.ofNat (nat_lit 156 + (1 : Nat)) ∧ Int.ofNat (nat_lit 156 + (1 : Nat)) ≤ Int.ofNat (nat_lit 168 + (1 : Nat)) ∧ Int.ofNat (nat_lit 168 + (1 : Nat)) ≤ (↑(bitKS l).n : Int), ((↑l.length : Int) != (128 : Int)) = false → (0 : Int) ≤ (↑(val (List.take (Int.toNat (73 : Int) - Int.toNat (33 : Int)) (List.drop (Int.toNat (33 : Int)) (bitsAll l)))) : Int) ∧ (↑(val (List.take (Int.toNat (73 : Int) - Int.toNat (33 : Int)) (List.drop (Int.toNat (33 : Int)) (bitsAll l)))) : Int) < (18446744073709551616 : Int)] (by kernel_rfl) ((by
    repeat' (first | exact mnil | refine mcons ?_ ?_)
    all_goals first
      | exact h0
      | exact fun _ => h0
      | exact fun _ => Nat.le_trans (List.length_take_le _ _) (by decide)
      | exact fun _ => rfl
      | exact fun h => ⟨by decide, by decide, kn_128 h (by decide)⟩
      | exact fun _ => ⟨Int.natCast_nonneg _, qB_in _ _ _ (by decide)⟩
    ))
def F_ridec : Nat × Fn2 Tu := (23, rowB fun l => some ([l.length ≤ 100000], .tuple #[.agg #[.int .i64 (rdecI l).kd, .int .i64 (rdecI l).gn, .int .u64 (rdecI l).ve, .int .i64 (rdecI l).b0, .int .i64 (rdecI l).b1, .int .i64 (rdecI l).b2, .int .i64 (rdecI l).b3, .int .i64 (rdecI l).b4, .int .i64 (rdecI l).b5, .int .i64 (rdecI l).b6, .int .i64 (rdecI l).b7], .int .i64 (rdecIE l)]))
theorem F_ridec_ok : RowOk Try.prog Iu (hardT hz) F_ridec.1 F_ridec.2 := by
  refine rowB_ok Try.call23 fun l ps v hs hp u w hb => ?_
  simp only [Option.some.injEq, Prod.mk.injEq] at hs
  obtain ⟨rfl, rfl⟩ := hs
  exact ridec_c l (hp _ (by simp)) u w hb

end Go.Proofs.Ytophabekaicdeaa
