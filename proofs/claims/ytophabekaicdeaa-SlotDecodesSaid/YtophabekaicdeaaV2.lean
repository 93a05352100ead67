/- slot: encodes. -/
import Derived.Test.YtophabekaicdeaaV1

set_option linter.unusedVariables false
set_option linter.unusedSimpArgs false
namespace Go.Proofs.Ytophabekaicdeaa
open Go.RowKit

def isZ (x : Sl) : Bool := x.us == false && ((x.io == 0 && (x.gn == 0 && true)) && (x.pl == 0 && true) && (x.ve == 0 && (x.di == false && (x.da == ⟨#[]⟩ && true))))
set_option maxRecDepth 100000 in
theorem sfree_c (us : Bool) (io gn pl ve : Int) (di : Bool) (da : ByteArray) (w : World) : Calls Try.prog 36 #[.agg #[.bool us, .int .i64 io, .int .i64 gn, .int .i64 pl, .int .u64 ve, .bool di, .string da]] w fun e w' => e = .returned (.bool (isZ (⟨us, io, gn, pl, ve, di, da⟩ : Sl))) ∧ Ext w w' :=
  conR (S := (⟨Try.prog, [], [E_of Try.prog 76], thHo hz, Iu.one, 40⟩ : Sy Tu)) (I := Iu) (L := []) (args := [.agg [.v (.bool us), .v (.int .i64 io), .v (.int .i64 gn), .v (.int .i64 pl), .v (.int .u64 ve), .v (.bool di), .v (.string da)]]) (us := [.agg #[.bool us, .int .i64 io, .int .i64 gn, .int .i64 pl, .int .u64 ve, .bool di, .string da]]) (e := []) (mem := []) (SyOk.mk2 Try.mixed (thHo_ok hz) (FnsR.nil) (E_of_ok (by kernel_rfl) (EqsOk.nil))) Try.func36 (by kernel_rfl) (LpsOk.nil _) (args_nil Iu w) (fun n hn => by cases hn) (⟨⟨[.bool us, .int .i64 io, .int .i64 gn, .int .i64 pl, .int .u64 ve, .bool di, .string da], ⟨rfl, rfl, rfl, rfl, rfl, rfl, rfl, trivial⟩, rfl⟩, trivial⟩) (by kernel_rfl) nil_u (noSh) (by kernel_rfl) [] (by kernel_rfl) (by simp)
def F_sfree : Nat × Fn2 Tu := (36, vfn fun us => match us with | [.agg ⟨[.bool us, .int .i64 io, .int .i64 gn, .int .i64 pl, .int .u64 ve, .bool di, .string da]⟩] => some ([], .bool (isZ (⟨us, io, gn, pl, ve, di, da⟩ : Sl))) | _ => none)
theorem F_sfree_ok : RowOk Try.prog Iu (hardT hz) F_sfree.1 F_sfree.2 := by
  refine vfn_ok Try.call36 fun args ps r hs hp w => ?_
  split at hs
  · simp only [Option.some.injEq, Prod.mk.injEq] at hs
    obtain ⟨rfl, rfl⟩ := hs
    exact sfree_c _ _ _ _ _ _ _  w
  · cases hs
def noB (x : Sl) : Bool := ((!x.us || decide (x.io < 1)) || decide (x.io > 40)) || decide ((x.da.size : Int) > 64)
def encW (x : Sl) : WS := (((((((WS.new.put (bt x.us) 1).put (bt x.di) 1).put (u64 x.io) 6).put (u64 x.gn) 31).put (u64 x.pl) 3).put x.ve 40).text x.da)
def encL (x : Sl) : List UInt8 := cond (isZ x) (List.replicate 128 0) (cond (noB x) [] (cond ((encW x).err != 0) [] (padS (encW x).out)))
def encE (x : Sl) : Int := cond (isZ x) 0 (cond (noB x) 2 (cond ((encW x).err != 0) 2 0))
def itS (x : Sl) : List (Int × Int) := [(bt x.us, 1), (bt x.di, 1), (u64 x.io, 6), (u64 x.gn, 31), (u64 x.pl, 3), (x.ve, 40)]
theorem encW_puts (x : Sl) : encW x = (puts .new (itS x)).text x.da := rfl
theorem encW_err (x : Sl) : (encW x).err = cond ((itS x).all fitB) 0 2 := by rw [encW_puts]; exact puts_err _ rfl
theorem encW_bl {x : Sl} (hf : (itS x).all fitB = true) : (encW x).bl = (itS x).flatMap bitI ++ textBits x.da.data.toList := by
  rw [encW_puts]
  have h1 := puts_err (itS x) (s := .new) rfl
  rw [hf] at h1
  have h1 : (puts WS.new (itS x)).err = 0 := h1
  simp only [WS.text, textL]
  rw [if_pos h1, puts_bl _ rfl hf]
  rfl
theorem noB_size {x : Sl} (h : noB x = false) : x.da.size ≤ 64 := by
  unfold noB at h
  simp only [Bool.or_eq_false_iff, decide_eq_false_iff_not] at h
  have := h.2
  omega
theorem encW_out {x : Sl} (h : noB x = false) : (encW x).out.length ≤ 128 := by
  have hs := noB_size h
  unfold WS.out
  rw [encW_err]
  cases hf : (itS x).all fitB with
  | false => rw [if_neg (by decide)]; exact Nat.zero_le _
  | true =>
    rw [if_pos (by rfl), encW_bl hf, packed_length]
    have : x.da.data.toList.length = x.da.size := rfl
    simp [itS, bitI, bitsOf_length, textBits, bitsAll_length]
    omega
set_option maxRecDepth 100000 in
theorem senc_c (us : Bool) (io gn pl ve : Int) (di : Bool) (da : ByteArray) (h0 : 0 ≤ ve ∧ ve < 18446744073709551616) (w : World) : Calls Try.prog 33 #[.agg #[.bool us, .int .i64 io, .int .i64 gn, .int .i64 pl, .int .u64 ve, .bool di, .string da]] w fun x w' => ∃ v v0, x = .returned v ∧ (.tup [.one (.obj 0), .one (.v (.int .i64 (encE (⟨us, io, gn, pl, ve, di, da⟩ : Sl))))] : SV).is [v0] v ∧ Ext w w' ∧ Iu.holds (.own (encL (⟨us, io, gn, pl, ve, di, da⟩ : Sl))) w' v0 ∧ ∀ k, Iu.foot (.own (encL (⟨us, io, gn, pl, ve, di, da⟩ : Sl))) w' v0 k → w.heap.size ≤ k ∧ k < w'.heap.size :=
  by
  have h := conN (S := (⟨Try.prog, [F_sfree, F_bit, F_wide, (F_new (hx := hz) : Nat × Fn2 Tu), (F_put (hx := hz) : Nat × Fn2 Tu), (F_wtext (hx := hz) : Nat × Fn2 Tu), (F_done (hx := hz) : Nat × Fn2 Tu)], [], thHo hz, Iu.one, 40⟩ : Sy Tu)) (I := Iu) (L := []) (args := [.agg [.v (.bool us), .v (.int .i64 io), .v (.int .i64 gn), .v (.int .i64 pl), .v (.int .u64 ve), .v (.bool di), .v (.string da)]]) (us := [.agg #[.bool us, .int .i64 io, .int .i64 gn, .int .i64 pl, .int .u64 ve, .bool di, .string da]]) (SyOk.mk2 Try.mixed (thHo_ok hz) (FnsR.cons F_sfree_ok (FnsR.cons F_bit_ok (FnsR.cons F_wide_ok (FnsR.cons (F_new_ok (J := noI) (hx := hz)) (FnsR.cons (F_put_ok (J := noI) (hx := hz)) (FnsR.cons (F_wtext_ok (J := noI) (hx := hz)) (FnsR.cons (F_done_ok (J := noI) (hx := hz)) (FnsR.nil)))))))) (EqsOk.nil)) Try.func33 (by kernel_rfl) (LpsOk.nil _) (args_nil Iu w) (⟨⟨[.bool us, .int .i64 io, .int .i64 gn, .int .i64 pl, .int .u64 ve, .bool di, .string da], ⟨rfl, rfl, rfl, rfl, rfl, rfl, rfl, trivial⟩, rfl⟩, trivial⟩) (by kernel_rfl) nil_u (.tup [.one (.obj 0)]) (r := .tup [.one (.obj 0), .one (.v (.int .i64 (encE (⟨us, io, gn, pl, ve, di, da⟩ : Sl))))]) (b := cond (isZ (⟨us, io, gn, pl, ve, di, da⟩ : Sl)) (.own (List.replicate 128 0)) (cond (noB (⟨us, io, gn, pl, ve, di, da⟩ : Sl)) (.own []) (cond ((encW (⟨us, io, gn, pl, ve, di, da⟩ : Sl)).err != 0) (.own []) (.own (padS (encW (⟨us, io, gn, pl, ve, di, da⟩ : Sl)).out))))) (by kernel_rfl) [isZ (Sl.mk us io gn pl ve di da) = false → (!us || decide (io < (1 : Int)) || decide (io > (40 : Int)) || decide ((↑da.size : Int) > (64 : Int))) = false → da.size < (65536 : Nat), isZ (Sl.mk us io gn pl ve di da) = false → (!us || decide (io < (1 : Int)) || decide (io > (40 : Int)) || decide ((↑da.size : Int) > (64 : Int))) = false → (0 : Int) ≤ ve ∧ ve < (18446744073709551616 : Int), isZ (Sl.mk us io gn pl ve di da) = false → (!us || decide (io < (1 : Int)) || decide (io > (40 : Int)) || decide ((↑da.size : Int) > (64 : Int))) = false → (0 : Int) ≤ u64 pl ∧ u64 pl < (18446744073709551616 : Int), isZ (Sl.mk us io gn pl ve di da) = false → (!us || decide (io < (1 : Int)) || decide (io > (40 : Int)) || decide ((↑da.size : Int) > (64 : Int))) = false → (0 : Int) ≤ u64 gn ∧ u64 gn < (18446744073709551616 : Int), isZ (Sl.mk us io gn pl ve di da) = false → (!us || decide (io < (1 : Int)) || decide (io > (40 : Int)) || decide ((↑da.size : Int) > (64 : Int))) = false → (0 : Int) ≤ u64 io ∧ u64 io < (18446744073709551616 : Int), isZ (Sl.mk us io gn pl ve di da) = false → (!us || decide (io < (1 : Int)) || decide (io > (40 : Int)) || decide ((↑da.size : Int) > (64 : Int))) = false → (0 : Int) ≤ bt di ∧ bt di < (18446744073709551616 : Int), isZ (Sl.mk us io gn pl ve di da) = false → (!us || decide (io < (1 : Int)) || decide (io > (40 : Int)) || decide ((↑da.size : Int) > (64 : Int))) = false → (0 : Int) ≤ bt us ∧ bt us < (18446744073709551616 : Int), isZ (Sl.mk us io gn pl ve di da) = false → (!us || decide (io < (1 : Int)) || decide (io > (40 : Int)) || decide ((↑da.size : Int) > (64 : Int))) = false → ((((((((WS.new.put (bt us) (↑1 : Int)).put (bt di) (↑1 : Int)).put (u64 io) (↑6 : Int)).put (u64 gn) (↑31 : Int)).put (u64 pl) (↑3 : Int)).put ve (↑40 : Int)).text da).err != (0 : Int)) = false → (0 : Int) ≤ IntKind.i64.wrap ((128 : Int) - (↑(((((((WS.new.put (bt us) (↑1 : Int)).put (bt di) (↑1 : Int)).put (u64 io) (↑6 : Int)).put (u64 gn) (↑31 : Int)).put (u64 pl) (↑3 : Int)).put ve (↑40 : Int)).text da).out.length : Int)), isZ (Sl.mk us io gn pl ve di da) = false → (!us || decide (io < (1 : Int)) || decide (io > (40 : Int)) || decide ((↑da.size : Int) > (64 : Int))) = false → ((((((((WS.new.put (bt us) (↑1 : Int)).put (bt di) (↑1 : Int)).put (u64 io) (↑6 : Int)).put (u64 gn) (↑31 : Int)).put (u64 pl) (↑3 : Int)).put ve (↑40 : Int)).text da).err != (0 : Int)) = false → (((((((WS.new.put (bt us) (↑1 : Int)).put (bt di) (↑1 : Int)).put (u64 io) (↑6 : Int)).put (u64 gn) (↑31 : Int)).put (u64 pl) (↑3 : Int)).put ve (↑40 : Int)).text da).out.length + (IntKind.i64.wrap ((128 : Int) - (↑(((((((WS.new.put (bt us) (↑1 : Int)).put (bt di) (↑1 : Int)).put (u64 io) (↑6 : Int)).put (u64 gn) (↑31 : Int)).put (u64 pl) (↑3 : Int)).put ve (↑40 : Int)).text da).out.length : Int))).toNat ≤ (1000000 : Nat)] (by kernel_rfl) ((by
    repeat' (first | exact mnil | refine mcons ?_ ?_)
    all_goals first
      | exact fun _ _ => bt_in _
      | exact fun _ _ => u64_in _
      | exact fun _ _ => h0
      | exact fun _ (h : noB (⟨us, io, gn, pl, ve, di, da⟩ : Sl) = false) => Nat.lt_of_le_of_lt (noB_size h) (by decide)
      | exact fun _ (h : noB (⟨us, io, gn, pl, ve, di, da⟩ : Sl) = false) _ => (pad_ok (encW_out h)).1
      | exact fun _ (h : noB (⟨us, io, gn, pl, ve, di, da⟩ : Sl) = false) _ => (pad_ok (encW_out h)).2
    ))
  rw [cond_own, cond_own, cond_own] at h
  exact h
def F_senc : Nat × Fn2 Tu := (33, rowNV (hardT hz) fun us => match us with | [.agg ⟨[.bool us, .int .i64 io, .int .i64 gn, .int .i64 pl, .int .u64 ve, .bool di, .string da]⟩] => some ([0 ≤ ve ∧ ve < 18446744073709551616], .tup [.one (.obj 0), .one (.v (.int .i64 (encE (⟨us, io, gn, pl, ve, di, da⟩ : Sl))))], .own (encL (⟨us, io, gn, pl, ve, di, da⟩ : Sl))) | _ => none)
theorem F_senc_ok : RowOk Try.prog Iu (hardT hz) F_senc.1 F_senc.2 := by
  refine rowNV_ok Try.call33 fun vs ps r b hs hp w => ?_
  split at hs
  · simp only [Option.some.injEq, Prod.mk.injEq] at hs
    obtain ⟨rfl, rfl, rfl⟩ := hs
    exact senc_c _ _ _ _ _ _ _ (hp _ (by simp)) w
  · cases hs

end Go.Proofs.Ytophabekaicdeaa
