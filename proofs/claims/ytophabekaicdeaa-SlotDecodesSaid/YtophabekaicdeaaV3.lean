/- slot: the document. -/
import Derived.Test.YtophabekaicdeaaV2

set_option linter.unusedVariables false
set_option linter.unusedSimpArgs false
namespace Go.Proofs.Ytophabekaicdeaa
open Go.RowKit

def isS (x : Sl) : Bool := isZ x || ((((((((x.us && decide (x.io > 0)) && decide (x.io < 41)) && decide (x.gn ≥ 0)) && decide (x.gn ≤ 2147483647)) && decide (x.pl ≥ 0)) && decide (x.pl < 8)) && decide (x.ve ≤ 1099511627775)) && decide ((x.da.size : Int) ≤ 64))
set_option maxRecDepth 100000 in
theorem sis_c (us : Bool) (io gn pl ve : Int) (di : Bool) (da : ByteArray) (w : World) : Calls Try.prog 60 #[.agg #[.bool us, .int .i64 io, .int .i64 gn, .int .i64 pl, .int .u64 ve, .bool di, .string da]] w fun e w' => e = .returned (.bool (isS (⟨us, io, gn, pl, ve, di, da⟩ : Sl))) ∧ Ext w w' :=
  conR (S := (⟨Try.prog, [], [E_of Try.prog 73], thHo hz, Iu.one, 40⟩ : Sy Tu)) (I := Iu) (L := []) (args := [.agg [.v (.bool us), .v (.int .i64 io), .v (.int .i64 gn), .v (.int .i64 pl), .v (.int .u64 ve), .v (.bool di), .v (.string da)]]) (us := [.agg #[.bool us, .int .i64 io, .int .i64 gn, .int .i64 pl, .int .u64 ve, .bool di, .string da]]) (e := []) (mem := []) (SyOk.mk2 Try.mixed (thHo_ok hz) (FnsR.nil) (E_of_ok (by kernel_rfl) (EqsOk.nil))) Try.func60 (by kernel_rfl) (LpsOk.nil _) (args_nil Iu w) (fun n hn => by cases hn) (⟨⟨[.bool us, .int .i64 io, .int .i64 gn, .int .i64 pl, .int .u64 ve, .bool di, .string da], ⟨rfl, rfl, rfl, rfl, rfl, rfl, rfl, trivial⟩, rfl⟩, trivial⟩) (by kernel_rfl) nil_u (noSh) (by kernel_rfl) [] (by kernel_rfl) (by simp)
def F_sis : Nat × Fn2 Tu := (60, vfn fun us => match us with | [.agg ⟨[.bool us, .int .i64 io, .int .i64 gn, .int .i64 pl, .int .u64 ve, .bool di, .string da]⟩] => some ([], .bool (isS (⟨us, io, gn, pl, ve, di, da⟩ : Sl))) | _ => none)
theorem F_sis_ok : RowOk Try.prog Iu (hardT hz) F_sis.1 F_sis.2 := by
  refine vfn_ok Try.call60 fun args ps r hs hp w => ?_
  split at hs
  · simp only [Option.some.injEq, Prod.mk.injEq] at hs
    obtain ⟨rfl, rfl⟩ := hs
    exact sis_c _ _ _ _ _ _ _  w
  · cases hs
set_option maxRecDepth 100000 in
theorem r14_pad {F : Fns Tu} {E : EqFns} {fuel : Nat} (hS : ∀ w G, SyOk (⟨Try.prog, F, E, thHo hz, Iu.one, fuel⟩ : Sy Tu) Iu w G) : SmSound (⟨Try.prog, F, E, thHo hz, Iu.one, fuel⟩ : Sy Tu) Iu 60 (hdC (loopsC (bodyOf Try.f35)) 0) [6] (padG 0 6) :=
  pad_sm hS (by kernel_rfl) (fun l k base ver => by kernel_rfl)
theorem isS_size {x : Sl} (h : (!isS x) = false) (hu : x.us = true) : x.da.size ≤ 64 := by
  simp only [Bool.not_eq_false'] at h
  unfold isS at h
  rw [Bool.or_eq_true] at h
  rcases h with h | h
  · unfold isZ at h
    rw [hu] at h
    cases h
  · simp only [Bool.and_eq_true, decide_eq_true_iff] at h
    have := h.2
    omega
def rbS (x : Sl) : List Bool := ((((((bitsOf (Int.toNat 1) 1 ++ bitsOf (cond x.di (1 : Int) 0).toNat 1) ++ bitsOf (IntKind.u64.wrap x.io).toNat 6) ++ bitsOf (IntKind.u64.wrap x.gn).toNat 31) ++ bitsOf (IntKind.u64.wrap x.pl).toNat 3) ++ bitsOf x.ve.toNat 40) ++ textBits x.da.data.toList)
def rencL (x : Sl) : List UInt8 := cond (!isS x) [] (cond x.us (padTo 128 (packed (rbS x))) (padTo 128 (packed [])))
def rencE (x : Sl) : Int := cond (!isS x) 2 (cond x.us 0 0)
theorem cu_in (g : Bool) : 0 ≤ (cond g (1 : Int) 0) ∧ (cond g (1 : Int) 0) < 18446744073709551616 := by cases g <;> decide
theorem tb_len (s : ByteArray) : (textBits s.data.toList).length = 16 + 8 * s.size := by
  unfold textBits
  rw [List.length_append, bitsOf_length, bitsAll_length]; rfl
set_option maxRecDepth 100000 in
theorem rsenc_c (us : Bool) (io gn pl ve : Int) (di : Bool) (da : ByteArray) (h0 : 0 ≤ ve ∧ ve < 18446744073709551616) (w : World) : Calls Try.prog 35 #[.agg #[.bool us, .int .i64 io, .int .i64 gn, .int .i64 pl, .int .u64 ve, .bool di, .string da]] w fun x w' => ∃ v v0, x = .returned v ∧ (.tup [.one (.obj 0), .one (.v (.int .i64 (rencE (⟨us, io, gn, pl, ve, di, da⟩ : Sl))))] : SV).is [v0] v ∧ Ext w w' ∧ Iu.holds (.own (rencL (⟨us, io, gn, pl, ve, di, da⟩ : Sl))) w' v0 ∧ ∀ k, Iu.foot (.own (rencL (⟨us, io, gn, pl, ve, di, da⟩ : Sl))) w' v0 k → w.heap.size ≤ k ∧ k < w'.heap.size :=
  by
  have h := conN (S := (⟨Try.prog, [F_sis, (F_rbits (hx := hz) : Nat × Fn2 Tu), (F_rtextb (hx := hz) : Nat × Fn2 Tu), (F_rbytes (hx := hz) : Nat × Fn2 Tu)], [], thHo hz, Iu.one, 40⟩ : Sy Tu)) (I := Iu) (L := [(15, frG (hdC (loopsC (bodyOf Try.f35)) 0) [6] (padG 0 6))]) (args := [.agg [.v (.bool us), .v (.int .i64 io), .v (.int .i64 gn), .v (.int .i64 pl), .v (.int .u64 ve), .v (.bool di), .v (.string da)]]) (us := [.agg #[.bool us, .int .i64 io, .int .i64 gn, .int .i64 pl, .int .u64 ve, .bool di, .string da]]) (SyOk.mk2 Try.mixed (thHo_ok hz) (FnsR.cons F_sis_ok (FnsR.cons (F_rbits_ok (J := noI) (hx := hz)) (FnsR.cons (F_rtextb_ok (J := noI) (hx := hz)) (FnsR.cons (F_rbytes_ok (J := noI) (hx := hz)) (FnsR.nil))))) (EqsOk.nil)) Try.func35 (by kernel_rfl) (LpsOk.cons (by kernel_rfl) (frG_sound (r14_pad (fun _ _ => (SyOk.mk2 Try.mixed (thHo_ok hz) (FnsR.cons F_sis_ok (FnsR.cons (F_rbits_ok (J := noI) (hx := hz)) (FnsR.cons (F_rtextb_ok (J := noI) (hx := hz)) (FnsR.cons (F_rbytes_ok (J := noI) (hx := hz)) (FnsR.nil))))) (EqsOk.nil))))) (LpsOk.nil _)) (args_nil Iu w) (⟨⟨[.bool us, .int .i64 io, .int .i64 gn, .int .i64 pl, .int .u64 ve, .bool di, .string da], ⟨rfl, rfl, rfl, rfl, rfl, rfl, rfl, trivial⟩, rfl⟩, trivial⟩) (by kernel_rfl) nil_u (.tup [.one (.obj 0)]) (r := .tup [.one (.obj 0), .one (.v (.int .i64 (rencE (⟨us, io, gn, pl, ve, di, da⟩ : Sl))))]) (b := cond (!isS (⟨us, io, gn, pl, ve, di, da⟩ : Sl)) (.own []) (cond us (.own (padTo 128 (packed (rbS (⟨us, io, gn, pl, ve, di, da⟩ : Sl))))) (.own (padTo 128 (packed []))))) (by kernel_rfl) [(!isS (Sl.mk us io gn pl ve di da)) = false → us = true → (bitsOf (Int.toNat (1 : Int)) 1).length + (bitsOf (bif di then (1 : Int) else (0 : Int)).toNat 1).length ≤ (1000000 : Nat), (!isS (Sl.mk us io gn pl ve di da)) = false → us = true → ((0 : Int) ≤ bif di then (1 : Int) else (0 : Int)) ∧ (bif di then (1 : Int) else (0 : Int)) < (18446744073709551616 : Int), (!isS (Sl.mk us io gn pl ve di da)) = false → us = true → (0 : Int) ≤ (1 : Int) ∧ (1 : Int) < (18446744073709551616 : Int), (!isS (Sl.mk us io gn pl ve di da)) = false → us = true → (bitsOf (Int.toNat (1 : Int)) 1 ++ bitsOf (bif di then (1 : Int) else (0 : Int)).toNat 1).length + (bitsOf (IntKind.u64.wrap io).toNat 6).length ≤ (1000000 : Nat), (!isS (Sl.mk us io gn pl ve di da)) = false → us = true → (0 : Int) ≤ IntKind.u64.wrap io ∧ IntKind.u64.wrap io < (18446744073709551616 : Int), (!isS (Sl.mk us io gn pl ve di da)) = false → us = true → (bitsOf (Int.toNat (1 : Int)) 1 ++ bitsOf (bif di then (1 : Int) else (0 : Int)).toNat 1 ++ bitsOf (IntKind.u64.wrap io).toNat 6).length + (bitsOf (IntKind.u64.wrap gn).toNat 31).length ≤ (1000000 : Nat), (!isS (Sl.mk us io gn pl ve di da)) = false → us = true → (0 : Int) ≤ IntKind.u64.wrap gn ∧ IntKind.u64.wrap gn < (18446744073709551616 : Int), (!isS (Sl.mk us io gn pl ve di da)) = false → us = true → (bitsOf (Int.toNat (1 : Int)) 1 ++ bitsOf (bif di then (1 : Int) else (0 : Int)).toNat 1 ++ bitsOf (IntKind.u64.wrap io).toNat 6 ++ bitsOf (IntKind.u64.wrap gn).toNat 31).length + (bitsOf (IntKind.u64.wrap pl).toNat 3).length ≤ (1000000 : Nat), (!isS (Sl.mk us io gn pl ve di da)) = false → us = true → (0 : Int) ≤ IntKind.u64.wrap pl ∧ IntKind.u64.wrap pl < (18446744073709551616 : Int), (!isS (Sl.mk us io gn pl ve di da)) = false → us = true → (bitsOf (Int.toNat (1 : Int)) 1 ++ bitsOf (bif di then (1 : Int) else (0 : Int)).toNat 1 ++ bitsOf (IntKind.u64.wrap io).toNat 6 ++ bitsOf (IntKind.u64.wrap gn).toNat 31 ++ bitsOf (IntKind.u64.wrap pl).toNat 3).length + (bitsOf ve.toNat 40).length ≤ (1000000 : Nat), (!isS (Sl.mk us io gn pl ve di da)) = false → us = true → (0 : Int) ≤ ve ∧ ve < (18446744073709551616 : Int), (!isS (Sl.mk us io gn pl ve di da)) = false → us = true → (bitsOf (Int.toNat (1 : Int)) 1 ++ bitsOf (bif di then (1 : Int) else (0 : Int)).toNat 1 ++ bitsOf (IntKind.u64.wrap io).toNat 6 ++ bitsOf (IntKind.u64.wrap gn).toNat 31 ++ bitsOf (IntKind.u64.wrap pl).toNat 3 ++ bitsOf ve.toNat 40).length + (textBits da.data.toList).length ≤ (1000000 : Nat), (!isS (Sl.mk us io gn pl ve di da)) = false → us = true → da.size ≤ (60000 : Nat), (!isS (Sl.mk us io gn pl ve di da)) = false → us = true → (bitsOf (Int.toNat (1 : Int)) 1 ++ bitsOf (bif di then (1 : Int) else (0 : Int)).toNat 1 ++ bitsOf (IntKind.u64.wrap io).toNat 6 ++ bitsOf (IntKind.u64.wrap gn).toNat 31 ++ bitsOf (IntKind.u64.wrap pl).toNat 3 ++ bitsOf ve.toNat 40 ++ textBits da.data.toList).length ≤ (1000000 : Nat), (!isS (Sl.mk us io gn pl ve di da)) = false → us = false → ([] : List Bool).length ≤ (1000000 : Nat)] (by kernel_rfl) ((by
    repeat' (first | exact mnil | refine mcons ?_ ?_)
    all_goals first
      | exact fun _ _ => u64_in _
      | exact fun _ _ => h0
      | exact fun _ _ => cu_in _
      | exact fun _ _ => by decide
      | exact fun h hu => Nat.le_trans (isS_size (x := (⟨us, io, gn, pl, ve, di, da⟩ : Sl)) h hu) (by decide)
      | (intro h hu; have hs : da.size ≤ 64 := isS_size (x := (⟨us, io, gn, pl, ve, di, da⟩ : Sl)) h hu; simp only [List.length_append, bitsOf_length, tb_len]; omega)
      | (intros; simp only [List.length_append, bitsOf_length, List.length_nil]; decide)
      | (intros; simp)
    ))
  rw [cond_own, cond_own] at h
  exact h
def F_rsenc : Nat × Fn2 Tu := (35, rowNV (hardT hz) fun us => match us with | [.agg ⟨[.bool us, .int .i64 io, .int .i64 gn, .int .i64 pl, .int .u64 ve, .bool di, .string da]⟩] => some ([0 ≤ ve ∧ ve < 18446744073709551616], .tup [.one (.obj 0), .one (.v (.int .i64 (rencE (⟨us, io, gn, pl, ve, di, da⟩ : Sl))))], .own (rencL (⟨us, io, gn, pl, ve, di, da⟩ : Sl))) | _ => none)
theorem F_rsenc_ok : RowOk Try.prog Iu (hardT hz) F_rsenc.1 F_rsenc.2 := by
  refine rowNV_ok Try.call35 fun vs ps r b hs hp w => ?_
  split at hs
  · simp only [Option.some.injEq, Prod.mk.injEq] at hs
    obtain ⟨rfl, rfl, rfl⟩ := hs
    exact rsenc_c _ _ _ _ _ _ _ (hp _ (by simp)) w
  · cases hs

end Go.Proofs.Ytophabekaicdeaa
