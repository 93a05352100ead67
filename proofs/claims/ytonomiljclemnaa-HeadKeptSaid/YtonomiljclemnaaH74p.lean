/- H68 H69 H70 H71 H40 Q1 Q2 Q3 Q4 H41 H42 H72 H74. -/
import Derived.Test.YtonomiljclemnaaH67p
import Derived.Test.YtonomiljclemnaaH24p
import Derived.Test.YtonomiljclemnaaBasep
import Derived.Deep.QuietTactic
import Derived.Test.YtonomiljclemnaaH3p
import Derived.Test.YtonomiljclemnaaF2p
set_option linter.unusedVariables false
set_option linter.unusedSimpArgs false
namespace Go.Proofs.Ytonomiljclemnaa
open Go.RowKit
def ldA (f : Int → Int → List UInt8 → Int) (L : List (List UInt8)) (Q : List (Int × List UInt8)) (a : Int) : Int := f a (IntKind.i64.wrap (a + 0)) (isD L Q (IntKind.i64.wrap (a + 0)))
def ldZ (f : Int → Int → List UInt8 → Int) (L : List (List UInt8)) (Q : List (Int × List UInt8)) (a : Int) : Int := f a (IntKind.i64.wrap (a + 1)) (isD L Q (IntKind.i64.wrap (a + 1)))
def ldP (L : List (List UInt8)) (Q : List (Int × List UInt8)) (a : Int) : Bool := hrB a (IntKind.i64.wrap (a + 0)) (isD L Q (IntKind.i64.wrap (a + 0)))
def ldQ (L : List (List UInt8)) (Q : List (Int × List UInt8)) (a : Int) : Bool := hrB a (IntKind.i64.wrap (a + 1)) (isD L Q (IntKind.i64.wrap (a + 1)))
def ldT (L : List (List UInt8)) (Q : List (Int × List UInt8)) (a : Int) : Bool := bif ldP L Q a then ldQ L Q a && decide (ldZ hrG L Q a > ldA hrG L Q a) else ldQ L Q a && true
def ldV (f : Int → Int → List UInt8 → Int) (L : List (List UInt8)) (Q : List (Int × List UInt8)) (a : Int) : Int := bif hwI (L.length : Int) a != 0 then 0 else bif ldT L Q a then ldZ f L Q a else bif ldP L Q a then ldA f L Q a else 0
def ldB (L : List (List UInt8)) (Q : List (Int × List UInt8)) (a : Int) : Bool := bif hwI (L.length : Int) a != 0 then false else bif ldT L Q a then true else ldP L Q a
set_option maxRecDepth 100000 in
theorem load0_w0 (L : List (List UInt8)) (Q : List (Int × List UInt8)) (fu : Int) (fd off : Bool) (a : Int) (h0 : (hwI (L.length : Int) a != 0) = true) (h1 : ldV hrG L Q a = 0) (h2 : ldV hrL L Q a = 0) (h3 : ldV hrF L Q a = 0) (h4 : ldB L Q a = false) : ∃ qs, wayO Id' ([⟨.bx [.obj 1, .obj 2, .v (.int .i64 fu), .v (.bool fd), .v (.bool off)], true⟩, ⟨.us (.ext (.flat (.secs L))), true⟩, ⟨.us (.ext (.flat (.pens Q))), true⟩] : Mem Td).length [⟨.bx [.obj 1, .obj 2, .v (.int .i64 fu), .v (.bool fd), .v (.bool off)], true⟩, ⟨.us (.ext (.flat (.secs L))), true⟩, ⟨.us (.ext (.flat (.pens Q))), true⟩] (.tup [.agg [.v (.int .u64 (ldV hrG L Q a)), .v (.int .u64 (ldV hrL L Q a)), .v (.int .u64 (ldV hrF L Q a))], .one (.v (.bool (ldB L Q a))), .one (.v (.int .i64 (hwI (L.length : Int) a)))]) ((runFn (⟨Try.prog, [(45, ctrV C_hwrong hardD), (46, ctrF Id' C_hread hardD)], [], dkHo, Id'.one, 60⟩ : Sy Td) [] Try.f35 [.one (.ptr 0 0), .one (.v (.int .i64 a))] [⟨.bx [.obj 1, .obj 2, .v (.int .i64 fu), .v (.bool fd), .v (.bool off)], true⟩, ⟨.us (.ext (.flat (.secs L))), true⟩, ⟨.us (.ext (.flat (.pens Q))), true⟩]).al [true]) = some qs ∧ ∀ q ∈ qs, q :=
  ⟨[(hwI (↑L.length : Int) a != (0 : Int)) = true, Value.int IntKind.i64 fu = Value.int IntKind.i64 fu, Value.bool fd = Value.bool fd, Value.bool off = Value.bool off, Th.ext (Dk.flat (FL.secs L)) = Th.ext (Dk.flat (FL.secs L)), Th.ext (Dk.flat (FL.pens Q)) = Th.ext (Dk.flat (FL.pens Q)), Value.int IntKind.u64 (Int.ofNat 0) = Value.int IntKind.u64 (ldV hrG L Q a), Value.int IntKind.u64 (Int.ofNat 0) = Value.int IntKind.u64 (ldV hrL L Q a), Value.int IntKind.u64 (Int.ofNat 0) = Value.int IntKind.u64 (ldV hrF L Q a), Value.bool false = Value.bool (ldB L Q a), Value.int IntKind.i64 (hwI (↑L.length : Int) a) = Value.int IntKind.i64 (hwI (↑L.length : Int) a)], by kernel_rfl, (by refine mcons ?_ (mcons ?_ (mcons ?_ (mcons ?_ (mcons ?_ (mcons ?_ (mcons ?_ (mcons ?_ (mcons ?_ (mcons ?_ (mcons ?_ mnil)))))))))) <;> first | rfl | exact h0 | exact h1 | exact h2 | exact h3 | exact h4 | trivial | (rw [h1]; rfl) | (rw [h1]) | (rw [h2]; rfl) | (rw [h2]) | (rw [h3]; rfl) | (rw [h3]) | (rw [h4]; rfl) | (rw [h4]))⟩
set_option maxRecDepth 100000 in
theorem load1_w0 (L : List (List UInt8)) (Q : List (Int × List UInt8)) (fu : Int) (fd off : Bool) (a : Int) (h0 : (hwI (L.length : Int) a != 0) = false) (h1 : (ldP L Q a && true) = true) (h2 : (ldQ L Q a && decide (ldZ hrG L Q a > ldA hrG L Q a)) = true) (h3 : WidL L) (h4 : WidQ Q) (h5 : 0 ≤ (IntKind.i64.wrap (a + 0)) ∧ (IntKind.i64.wrap (a + 0)).toNat < L.length) (h6 : 0 ≤ (IntKind.i64.wrap (a + 1)) ∧ (IntKind.i64.wrap (a + 1)).toNat < L.length) (h7 : ldV hrG L Q a = ldZ hrG L Q a) (h8 : ldV hrL L Q a = ldZ hrL L Q a) (h9 : ldV hrF L Q a = ldZ hrF L Q a) (h10 : ldB L Q a = true) (h11 : hwI (L.length : Int) a = 0) : ∃ qs, wayO Id' ([⟨.bx [.obj 1, .obj 2, .v (.int .i64 fu), .v (.bool fd), .v (.bool off)], true⟩, ⟨.us (.ext (.flat (.secs L))), true⟩, ⟨.us (.ext (.flat (.pens Q))), true⟩] : Mem Td).length [⟨.bx [.obj 1, .obj 2, .v (.int .i64 fu), .v (.bool fd), .v (.bool off)], true⟩, ⟨.us (.ext (.flat (.secs L))), true⟩, ⟨.us (.ext (.flat (.pens Q))), true⟩] (.tup [.agg [.v (.int .u64 (ldV hrG L Q a)), .v (.int .u64 (ldV hrL L Q a)), .v (.int .u64 (ldV hrF L Q a))], .one (.v (.bool (ldB L Q a))), .one (.v (.int .i64 (hwI (L.length : Int) a)))]) ((runFn (⟨Try.prog, [(45, ctrV C_hwrong hardD), (46, ctrF Id' C_hread hardD)], [], dkHo, Id'.one, 60⟩ : Sy Td) [] Try.f35 [.one (.ptr 0 0), .one (.v (.int .i64 a))] [⟨.bx [.obj 1, .obj 2, .v (.int .i64 fu), .v (.bool fd), .v (.bool off)], true⟩, ⟨.us (.ext (.flat (.secs L))), true⟩, ⟨.us (.ext (.flat (.pens Q))), true⟩]).al [false, true, true]) = some qs ∧ ∀ q ∈ qs, q :=
  ⟨[(hwI (↑L.length : Int) a != (0 : Int)) = false, WidL L, (∀ (q : Int × List UInt8), q ∈ Q → q.snd.length = (128 : Nat)) ∧ Q.length ≤ (100000 : Nat), (0 : Int) ≤ IntKind.i64.wrap (a + (0 : Int)) ∧ (IntKind.i64.wrap (a + (0 : Int))).toNat < L.length, (hrB a (IntKind.i64.wrap (a + (0 : Int))) (isD L Q (IntKind.i64.wrap (a + (0 : Int)))) && true) = true, WidL L, (∀ (q : Int × List UInt8), q ∈ Q → q.snd.length = (128 : Nat)) ∧ Q.length ≤ (100000 : Nat), (0 : Int) ≤ IntKind.i64.wrap (a + Int.ofNat ((0 : Nat) + (1 : Nat))) ∧ (IntKind.i64.wrap (a + Int.ofNat ((0 : Nat) + (1 : Nat)))).toNat < L.length, (hrB a (IntKind.i64.wrap (a + Int.ofNat ((0 : Nat) + (1 : Nat)))) (isD L Q (IntKind.i64.wrap (a + Int.ofNat ((0 : Nat) + (1 : Nat))))) && decide (hrG a (IntKind.i64.wrap (a + Int.ofNat ((0 : Nat) + (1 : Nat)))) (isD L Q (IntKind.i64.wrap (a + Int.ofNat ((0 : Nat) + (1 : Nat))))) > hrG a (IntKind.i64.wrap (a + (0 : Int))) (isD L Q (IntKind.i64.wrap (a + (0 : Int)))))) = true, Value.int IntKind.i64 fu = Value.int IntKind.i64 fu, Value.bool fd = Value.bool fd, Value.bool off = Value.bool off, Th.ext (Dk.flat (FL.secs L)) = Th.ext (Dk.flat (FL.secs L)), Th.ext (Dk.flat (FL.pens Q)) = Th.ext (Dk.flat (FL.pens Q)), Value.int IntKind.u64 (hrG a (IntKind.i64.wrap (a + Int.ofNat ((0 : Nat) + (1 : Nat)))) (isD L Q (IntKind.i64.wrap (a + Int.ofNat ((0 : Nat) + (1 : Nat)))))) = Value.int IntKind.u64 (ldV hrG L Q a), Value.int IntKind.u64 (hrL a (IntKind.i64.wrap (a + Int.ofNat ((0 : Nat) + (1 : Nat)))) (isD L Q (IntKind.i64.wrap (a + Int.ofNat ((0 : Nat) + (1 : Nat)))))) = Value.int IntKind.u64 (ldV hrL L Q a), Value.int IntKind.u64 (hrF a (IntKind.i64.wrap (a + Int.ofNat ((0 : Nat) + (1 : Nat)))) (isD L Q (IntKind.i64.wrap (a + Int.ofNat ((0 : Nat) + (1 : Nat)))))) = Value.int IntKind.u64 (ldV hrF L Q a), Value.bool true = Value.bool (ldB L Q a), Value.int IntKind.i64 (Int.ofNat 0) = Value.int IntKind.i64 (hwI (↑L.length : Int) a)], by kernel_rfl, (by refine mcons ?_ (mcons ?_ (mcons ?_ (mcons ?_ (mcons ?_ (mcons ?_ (mcons ?_ (mcons ?_ (mcons ?_ (mcons ?_ (mcons ?_ (mcons ?_ (mcons ?_ (mcons ?_ (mcons ?_ (mcons ?_ (mcons ?_ (mcons ?_ (mcons ?_ mnil)))))))))))))))))) <;> first | rfl | exact h0 | exact h1 | exact h2 | exact h3 | exact h4 | exact h5 | exact h6 | exact h7 | exact h8 | exact h9 | exact h10 | exact h11 | trivial | (rw [h7]; rfl) | (rw [h7]) | (rw [h8]; rfl) | (rw [h8]) | (rw [h9]; rfl) | (rw [h9]) | (rw [h10]; rfl) | (rw [h10]) | (rw [h11]; rfl) | (rw [h11]))⟩
set_option maxRecDepth 100000 in
theorem load2_w0 (L : List (List UInt8)) (Q : List (Int × List UInt8)) (fu : Int) (fd off : Bool) (a : Int) (h0 : (hwI (L.length : Int) a != 0) = false) (h1 : (ldP L Q a && true) = true) (h2 : (ldQ L Q a && decide (ldZ hrG L Q a > ldA hrG L Q a)) = false) (h3 : WidL L) (h4 : WidQ Q) (h5 : 0 ≤ (IntKind.i64.wrap (a + 0)) ∧ (IntKind.i64.wrap (a + 0)).toNat < L.length) (h6 : 0 ≤ (IntKind.i64.wrap (a + 1)) ∧ (IntKind.i64.wrap (a + 1)).toNat < L.length) (h7 : ldV hrG L Q a = ldA hrG L Q a) (h8 : ldV hrL L Q a = ldA hrL L Q a) (h9 : ldV hrF L Q a = ldA hrF L Q a) (h10 : ldB L Q a = true) (h11 : hwI (L.length : Int) a = 0) : ∃ qs, wayO Id' ([⟨.bx [.obj 1, .obj 2, .v (.int .i64 fu), .v (.bool fd), .v (.bool off)], true⟩, ⟨.us (.ext (.flat (.secs L))), true⟩, ⟨.us (.ext (.flat (.pens Q))), true⟩] : Mem Td).length [⟨.bx [.obj 1, .obj 2, .v (.int .i64 fu), .v (.bool fd), .v (.bool off)], true⟩, ⟨.us (.ext (.flat (.secs L))), true⟩, ⟨.us (.ext (.flat (.pens Q))), true⟩] (.tup [.agg [.v (.int .u64 (ldV hrG L Q a)), .v (.int .u64 (ldV hrL L Q a)), .v (.int .u64 (ldV hrF L Q a))], .one (.v (.bool (ldB L Q a))), .one (.v (.int .i64 (hwI (L.length : Int) a)))]) ((runFn (⟨Try.prog, [(45, ctrV C_hwrong hardD), (46, ctrF Id' C_hread hardD)], [], dkHo, Id'.one, 60⟩ : Sy Td) [] Try.f35 [.one (.ptr 0 0), .one (.v (.int .i64 a))] [⟨.bx [.obj 1, .obj 2, .v (.int .i64 fu), .v (.bool fd), .v (.bool off)], true⟩, ⟨.us (.ext (.flat (.secs L))), true⟩, ⟨.us (.ext (.flat (.pens Q))), true⟩]).al [false, true, false]) = some qs ∧ ∀ q ∈ qs, q :=
  ⟨[(hwI (↑L.length : Int) a != (0 : Int)) = false, WidL L, (∀ (q : Int × List UInt8), q ∈ Q → q.snd.length = (128 : Nat)) ∧ Q.length ≤ (100000 : Nat), (0 : Int) ≤ IntKind.i64.wrap (a + (0 : Int)) ∧ (IntKind.i64.wrap (a + (0 : Int))).toNat < L.length, (hrB a (IntKind.i64.wrap (a + (0 : Int))) (isD L Q (IntKind.i64.wrap (a + (0 : Int)))) && true) = true, WidL L, (∀ (q : Int × List UInt8), q ∈ Q → q.snd.length = (128 : Nat)) ∧ Q.length ≤ (100000 : Nat), (0 : Int) ≤ IntKind.i64.wrap (a + Int.ofNat ((0 : Nat) + (1 : Nat))) ∧ (IntKind.i64.wrap (a + Int.ofNat ((0 : Nat) + (1 : Nat)))).toNat < L.length, (hrB a (IntKind.i64.wrap (a + Int.ofNat ((0 : Nat) + (1 : Nat)))) (isD L Q (IntKind.i64.wrap (a + Int.ofNat ((0 : Nat) + (1 : Nat))))) && decide (hrG a (IntKind.i64.wrap (a + Int.ofNat ((0 : Nat) + (1 : Nat)))) (isD L Q (IntKind.i64.wrap (a + Int.ofNat ((0 : Nat) + (1 : Nat))))) > hrG a (IntKind.i64.wrap (a + (0 : Int))) (isD L Q (IntKind.i64.wrap (a + (0 : Int)))))) = false, Value.int IntKind.i64 fu = Value.int IntKind.i64 fu, Value.bool fd = Value.bool fd, Value.bool off = Value.bool off, Th.ext (Dk.flat (FL.secs L)) = Th.ext (Dk.flat (FL.secs L)), Th.ext (Dk.flat (FL.pens Q)) = Th.ext (Dk.flat (FL.pens Q)), Value.int IntKind.u64 (hrG a (IntKind.i64.wrap (a + (0 : Int))) (isD L Q (IntKind.i64.wrap (a + (0 : Int))))) = Value.int IntKind.u64 (ldV hrG L Q a), Value.int IntKind.u64 (hrL a (IntKind.i64.wrap (a + (0 : Int))) (isD L Q (IntKind.i64.wrap (a + (0 : Int))))) = Value.int IntKind.u64 (ldV hrL L Q a), Value.int IntKind.u64 (hrF a (IntKind.i64.wrap (a + (0 : Int))) (isD L Q (IntKind.i64.wrap (a + (0 : Int))))) = Value.int IntKind.u64 (ldV hrF L Q a), Value.bool true = Value.bool (ldB L Q a), Value.int IntKind.i64 (Int.ofNat 0) = Value.int IntKind.i64 (hwI (↑L.length : Int) a)], by kernel_rfl, (by refine mcons ?_ (mcons ?_ (mcons ?_ (mcons ?_ (mcons ?_ (mcons ?_ (mcons ?_ (mcons ?_ (mcons ?_ (mcons ?_ (mcons ?_ (mcons ?_ (mcons ?_ (mcons ?_ (mcons ?_ (mcons ?_ (mcons ?_ (mcons ?_ (mcons ?_ mnil)))))))))))))))))) <;> first | rfl | exact h0 | exact h1 | exact h2 | exact h3 | exact h4 | exact h5 | exact h6 | exact h7 | exact h8 | exact h9 | exact h10 | exact h11 | trivial | (rw [h7]; rfl) | (rw [h7]) | (rw [h8]; rfl) | (rw [h8]) | (rw [h9]; rfl) | (rw [h9]) | (rw [h10]; rfl) | (rw [h10]) | (rw [h11]; rfl) | (rw [h11]))⟩
set_option maxRecDepth 100000 in
theorem load3_w0 (L : List (List UInt8)) (Q : List (Int × List UInt8)) (fu : Int) (fd off : Bool) (a : Int) (h0 : (hwI (L.length : Int) a != 0) = false) (h1 : (ldP L Q a && true) = false) (h2 : (ldQ L Q a && true) = true) (h3 : WidL L) (h4 : WidQ Q) (h5 : 0 ≤ (IntKind.i64.wrap (a + 0)) ∧ (IntKind.i64.wrap (a + 0)).toNat < L.length) (h6 : 0 ≤ (IntKind.i64.wrap (a + 1)) ∧ (IntKind.i64.wrap (a + 1)).toNat < L.length) (h7 : ldV hrG L Q a = ldZ hrG L Q a) (h8 : ldV hrL L Q a = ldZ hrL L Q a) (h9 : ldV hrF L Q a = ldZ hrF L Q a) (h10 : ldB L Q a = true) (h11 : hwI (L.length : Int) a = 0) : ∃ qs, wayO Id' ([⟨.bx [.obj 1, .obj 2, .v (.int .i64 fu), .v (.bool fd), .v (.bool off)], true⟩, ⟨.us (.ext (.flat (.secs L))), true⟩, ⟨.us (.ext (.flat (.pens Q))), true⟩] : Mem Td).length [⟨.bx [.obj 1, .obj 2, .v (.int .i64 fu), .v (.bool fd), .v (.bool off)], true⟩, ⟨.us (.ext (.flat (.secs L))), true⟩, ⟨.us (.ext (.flat (.pens Q))), true⟩] (.tup [.agg [.v (.int .u64 (ldV hrG L Q a)), .v (.int .u64 (ldV hrL L Q a)), .v (.int .u64 (ldV hrF L Q a))], .one (.v (.bool (ldB L Q a))), .one (.v (.int .i64 (hwI (L.length : Int) a)))]) ((runFn (⟨Try.prog, [(45, ctrV C_hwrong hardD), (46, ctrF Id' C_hread hardD)], [], dkHo, Id'.one, 60⟩ : Sy Td) [] Try.f35 [.one (.ptr 0 0), .one (.v (.int .i64 a))] [⟨.bx [.obj 1, .obj 2, .v (.int .i64 fu), .v (.bool fd), .v (.bool off)], true⟩, ⟨.us (.ext (.flat (.secs L))), true⟩, ⟨.us (.ext (.flat (.pens Q))), true⟩]).al [false, false, true]) = some qs ∧ ∀ q ∈ qs, q :=
  ⟨[(hwI (↑L.length : Int) a != (0 : Int)) = false, WidL L, (∀ (q : Int × List UInt8), q ∈ Q → q.snd.length = (128 : Nat)) ∧ Q.length ≤ (100000 : Nat), (0 : Int) ≤ IntKind.i64.wrap (a + (0 : Int)) ∧ (IntKind.i64.wrap (a + (0 : Int))).toNat < L.length, (hrB a (IntKind.i64.wrap (a + (0 : Int))) (isD L Q (IntKind.i64.wrap (a + (0 : Int)))) && true) = false, WidL L, (∀ (q : Int × List UInt8), q ∈ Q → q.snd.length = (128 : Nat)) ∧ Q.length ≤ (100000 : Nat), (0 : Int) ≤ IntKind.i64.wrap (a + Int.ofNat ((0 : Nat) + (1 : Nat))) ∧ (IntKind.i64.wrap (a + Int.ofNat ((0 : Nat) + (1 : Nat)))).toNat < L.length, (hrB a (IntKind.i64.wrap (a + Int.ofNat ((0 : Nat) + (1 : Nat)))) (isD L Q (IntKind.i64.wrap (a + Int.ofNat ((0 : Nat) + (1 : Nat))))) && true) = true, Value.int IntKind.i64 fu = Value.int IntKind.i64 fu, Value.bool fd = Value.bool fd, Value.bool off = Value.bool off, Th.ext (Dk.flat (FL.secs L)) = Th.ext (Dk.flat (FL.secs L)), Th.ext (Dk.flat (FL.pens Q)) = Th.ext (Dk.flat (FL.pens Q)), Value.int IntKind.u64 (hrG a (IntKind.i64.wrap (a + Int.ofNat ((0 : Nat) + (1 : Nat)))) (isD L Q (IntKind.i64.wrap (a + Int.ofNat ((0 : Nat) + (1 : Nat)))))) = Value.int IntKind.u64 (ldV hrG L Q a), Value.int IntKind.u64 (hrL a (IntKind.i64.wrap (a + Int.ofNat ((0 : Nat) + (1 : Nat)))) (isD L Q (IntKind.i64.wrap (a + Int.ofNat ((0 : Nat) + (1 : Nat)))))) = Value.int IntKind.u64 (ldV hrL L Q a), Value.int IntKind.u64 (hrF a (IntKind.i64.wrap (a + Int.ofNat ((0 : Nat) + (1 : Nat)))) (isD L Q (IntKind.i64.wrap (a + Int.ofNat ((0 : Nat) + (1 : Nat)))))) = Value.int IntKind.u64 (ldV hrF L Q a), Value.bool true = Value.bool (ldB L Q a), Value.int IntKind.i64 (Int.ofNat 0) = Value.int IntKind.i64 (hwI (↑L.length : Int) a)], by kernel_rfl, (by refine mcons ?_ (mcons ?_ (mcons ?_ (mcons ?_ (mcons ?_ (mcons ?_ (mcons ?_ (mcons ?_ (mcons ?_ (mcons ?_ (mcons ?_ (mcons ?_ (mcons ?_ (mcons ?_ (mcons ?_ (mcons ?_ (mcons ?_ (mcons ?_ (mcons ?_ mnil)))))))))))))))))) <;> first | rfl | exact h0 | exact h1 | exact h2 | exact h3 | exact h4 | exact h5 | exact h6 | exact h7 | exact h8 | exact h9 | exact h10 | exact h11 | trivial | (rw [h7]; rfl) | (rw [h7]) | (rw [h8]; rfl) | (rw [h8]) | (rw [h9]; rfl) | (rw [h9]) | (rw [h10]; rfl) | (rw [h10]) | (rw [h11]; rfl) | (rw [h11]))⟩
set_option maxRecDepth 100000 in
theorem load4_w0 (L : List (List UInt8)) (Q : List (Int × List UInt8)) (fu : Int) (fd off : Bool) (a : Int) (h0 : (hwI (L.length : Int) a != 0) = false) (h1 : (ldP L Q a && true) = false) (h2 : (ldQ L Q a && true) = false) (h3 : WidL L) (h4 : WidQ Q) (h5 : 0 ≤ (IntKind.i64.wrap (a + 0)) ∧ (IntKind.i64.wrap (a + 0)).toNat < L.length) (h6 : 0 ≤ (IntKind.i64.wrap (a + 1)) ∧ (IntKind.i64.wrap (a + 1)).toNat < L.length) (h7 : ldV hrG L Q a = 0) (h8 : ldV hrL L Q a = 0) (h9 : ldV hrF L Q a = 0) (h10 : ldB L Q a = false) (h11 : hwI (L.length : Int) a = 0) : ∃ qs, wayO Id' ([⟨.bx [.obj 1, .obj 2, .v (.int .i64 fu), .v (.bool fd), .v (.bool off)], true⟩, ⟨.us (.ext (.flat (.secs L))), true⟩, ⟨.us (.ext (.flat (.pens Q))), true⟩] : Mem Td).length [⟨.bx [.obj 1, .obj 2, .v (.int .i64 fu), .v (.bool fd), .v (.bool off)], true⟩, ⟨.us (.ext (.flat (.secs L))), true⟩, ⟨.us (.ext (.flat (.pens Q))), true⟩] (.tup [.agg [.v (.int .u64 (ldV hrG L Q a)), .v (.int .u64 (ldV hrL L Q a)), .v (.int .u64 (ldV hrF L Q a))], .one (.v (.bool (ldB L Q a))), .one (.v (.int .i64 (hwI (L.length : Int) a)))]) ((runFn (⟨Try.prog, [(45, ctrV C_hwrong hardD), (46, ctrF Id' C_hread hardD)], [], dkHo, Id'.one, 60⟩ : Sy Td) [] Try.f35 [.one (.ptr 0 0), .one (.v (.int .i64 a))] [⟨.bx [.obj 1, .obj 2, .v (.int .i64 fu), .v (.bool fd), .v (.bool off)], true⟩, ⟨.us (.ext (.flat (.secs L))), true⟩, ⟨.us (.ext (.flat (.pens Q))), true⟩]).al [false, false, false]) = some qs ∧ ∀ q ∈ qs, q :=
  ⟨[(hwI (↑L.length : Int) a != (0 : Int)) = false, WidL L, (∀ (q : Int × List UInt8), q ∈ Q → q.snd.length = (128 : Nat)) ∧ Q.length ≤ (100000 : Nat), (0 : Int) ≤ IntKind.i64.wrap (a + (0 : Int)) ∧ (IntKind.i64.wrap (a + (0 : Int))).toNat < L.length, (hrB a (IntKind.i64.wrap (a + (0 : Int))) (isD L Q (IntKind.i64.wrap (a + (0 : Int)))) && true) = false, WidL L, (∀ (q : Int × List UInt8), q ∈ Q → q.snd.length = (128 : Nat)) ∧ Q.length ≤ (100000 : Nat), (0 : Int) ≤ IntKind.i64.wrap (a + Int.ofNat ((0 : Nat) + (1 : Nat))) ∧ (IntKind.i64.wrap (a + Int.ofNat ((0 : Nat) + (1 : Nat)))).toNat < L.length, (hrB a (IntKind.i64.wrap (a + Int.ofNat ((0 : Nat) + (1 : Nat)))) (isD L Q (IntKind.i64.wrap (a + Int.ofNat ((0 : Nat) + (1 : Nat))))) && true) = false, Value.int IntKind.i64 fu = Value.int IntKind.i64 fu, Value.bool fd = Value.bool fd, Value.bool off = Value.bool off, Th.ext (Dk.flat (FL.secs L)) = Th.ext (Dk.flat (FL.secs L)), Th.ext (Dk.flat (FL.pens Q)) = Th.ext (Dk.flat (FL.pens Q)), Value.int IntKind.u64 (Int.ofNat 0) = Value.int IntKind.u64 (ldV hrG L Q a), Value.int IntKind.u64 (Int.ofNat 0) = Value.int IntKind.u64 (ldV hrL L Q a), Value.int IntKind.u64 (Int.ofNat 0) = Value.int IntKind.u64 (ldV hrF L Q a), Value.bool false = Value.bool (ldB L Q a), Value.int IntKind.i64 (Int.ofNat 0) = Value.int IntKind.i64 (hwI (↑L.length : Int) a)], by kernel_rfl, (by refine mcons ?_ (mcons ?_ (mcons ?_ (mcons ?_ (mcons ?_ (mcons ?_ (mcons ?_ (mcons ?_ (mcons ?_ (mcons ?_ (mcons ?_ (mcons ?_ (mcons ?_ (mcons ?_ (mcons ?_ (mcons ?_ (mcons ?_ (mcons ?_ (mcons ?_ mnil)))))))))))))))))) <;> first | rfl | exact h0 | exact h1 | exact h2 | exact h3 | exact h4 | exact h5 | exact h6 | exact h7 | exact h8 | exact h9 | exact h10 | exact h11 | trivial | (rw [h7]; rfl) | (rw [h7]) | (rw [h8]; rfl) | (rw [h8]) | (rw [h9]; rfl) | (rw [h9]) | (rw [h10]; rfl) | (rw [h10]) | (rw [h11]; rfl) | (rw [h11]))⟩
end Go.Proofs.Ytonomiljclemnaa
set_option linter.unusedVariables false
set_option linter.unusedSimpArgs false
namespace Go.Proofs.Ytonomiljclemnaa
open Go.RowKit
theorem hwI_ok {n : Nat} {a : Int} (hn : n ≤ 100000) (h : (hwI (n : Int) a != 0) = false) : 0 ≤ a ∧ a + 1 < n ∧ hwI (n : Int) a = 0 := by
  have h : hwI (n : Int) a = 0 := by simpa using h
  refine ⟨?_, ?_, h⟩ <;>
  · unfold hwI at h
    cases h0 : ((n : Int) == 0) with
    | true => rw [h0] at h; cases h
    | false =>
      rw [h0, cond_false] at h
      cases h1 : (decide (a < 0) || decide (a ≥ IntKind.i64.wrap ((n : Int) - 1))) with
      | true => rw [h1] at h; cases h
      | false =>
        have hn0 : (n : Int) ≠ 0 := by simpa using h0
        rw [IntWalk.i64_in _ (by omega)] at h1
        simp at h1
        omega
def C_load : Ctr Td := fun us sub => match us, sub with
  | [.one (.ptr 0 0), .one (.v (.int .i64 a))], [⟨.bx [.obj 1, .obj 2, .v (.int .i64 fu), .v (.bool fd), .v (.bool off)], true⟩, ⟨.us (.ext (.flat (.secs L))), true⟩, ⟨.us (.ext (.flat (.pens Q))), true⟩] => some ([WidL L, WidQ Q, L.length ≤ 100000], .tup [.agg [.v (.int .u64 (ldV hrG L Q a)), .v (.int .u64 (ldV hrL L Q a)), .v (.int .u64 (ldV hrF L Q a))], .one (.v (.bool (ldB L Q a))), .one (.v (.int .i64 (hwI (L.length : Int) a)))], [⟨.bx [.obj 1, .obj 2, .v (.int .i64 fu), .v (.bool fd), .v (.bool off)], true⟩, ⟨.us (.ext (.flat (.secs L))), true⟩, ⟨.us (.ext (.flat (.pens Q))), true⟩])
  | _, _ => none
set_option maxHeartbeats 2000000 in
set_option maxRecDepth 100000 in
theorem C_load_ok : CtrOk Try.prog Id' 35 C_load := by
  intro us sub ps x sm h hp w e vs hM ha
  unfold C_load at h
  split at h
  · rename_i a fu fd off L Q
    simp only [Option.some.injEq, Prod.mk.injEq] at h
    obtain ⟨rfl, rfl, rfl⟩ := h
    have b0 : WidL L := hp _ (by simp)
    have b1 : WidQ Q := hp _ (by simp)
    have b2 : L.length ≤ 100000 := hp _ (by simp)
    cases h0 : (hwI (L.length : Int) a != 0) with
    | true =>
      have e0 : ldV hrG L Q a = 0 := by unfold ldV; rw [h0]; rfl
      have e1 : ldV hrL L Q a = 0 := by unfold ldV; rw [h0]; rfl
      have e2 : ldV hrF L Q a = 0 := by unfold ldV; rw [h0]; rfl
      have e3 : ldB L Q a = false := by unfold ldB; rw [h0]; rfl
      exact ctr_way (I := Id') (fun (W0 : World) (G : Nat → Prop) => SyOk.mk2 Try.mixed dkHo_ok (FnsR.cons (R_hwrong) (FnsR.cons (R_hread) (FnsR.nil))) EqsOk.nil) rfl Try.func35 (by kernel_rfl) (fun _ _ => LpsOk.nil _) (cs := [true]) (by kernel_rfl) (load0_w0 L Q fu fd off a h0 e0 e1 e2 e3) w e vs hM ha
    | false =>
      obtain ⟨k1, k2, k3⟩ := hwI_ok b2 h0
      have b3 : 0 ≤ (IntKind.i64.wrap (a + 0)) ∧ (IntKind.i64.wrap (a + 0)).toNat < L.length := by rw [IntWalk.i64_in _ (by omega)]; omega
      have b4 : 0 ≤ (IntKind.i64.wrap (a + 1)) ∧ (IntKind.i64.wrap (a + 1)).toNat < L.length := by rw [IntWalk.i64_in _ (by omega)]; omega
      cases hp1 : ldP L Q a with
      | true =>
        have h1 : (ldP L Q a && true) = true := by rw [hp1]; rfl
        cases h2 : (ldQ L Q a && decide (ldZ hrG L Q a > ldA hrG L Q a)) with
        | true =>
          have ht : ldT L Q a = true := by unfold ldT; rw [hp1]; exact h2
          have e0 : ldV hrG L Q a = ldZ hrG L Q a := by unfold ldV; rw [h0, ht]; rfl
          have e1 : ldV hrL L Q a = ldZ hrL L Q a := by unfold ldV; rw [h0, ht]; rfl
          have e2 : ldV hrF L Q a = ldZ hrF L Q a := by unfold ldV; rw [h0, ht]; rfl
          have e3 : ldB L Q a = true := by unfold ldB; rw [h0, ht]; rfl
          exact ctr_way (I := Id') (fun (W0 : World) (G : Nat → Prop) => SyOk.mk2 Try.mixed dkHo_ok (FnsR.cons (R_hwrong) (FnsR.cons (R_hread) (FnsR.nil))) EqsOk.nil) rfl Try.func35 (by kernel_rfl) (fun _ _ => LpsOk.nil _) (cs := [false, true, true]) (by kernel_rfl) (load1_w0 L Q fu fd off a h0 h1 h2 b0 b1 b3 b4 e0 e1 e2 e3 k3) w e vs hM ha
        | false =>
          have ht : ldT L Q a = false := by unfold ldT; rw [hp1]; exact h2
          have e0 : ldV hrG L Q a = ldA hrG L Q a := by unfold ldV; rw [h0, ht]; rw [hp1]; rfl
          have e1 : ldV hrL L Q a = ldA hrL L Q a := by unfold ldV; rw [h0, ht]; rw [hp1]; rfl
          have e2 : ldV hrF L Q a = ldA hrF L Q a := by unfold ldV; rw [h0, ht]; rw [hp1]; rfl
          have e3 : ldB L Q a = true := by unfold ldB; rw [h0, ht]; rw [hp1]; rfl
          exact ctr_way (I := Id') (fun (W0 : World) (G : Nat → Prop) => SyOk.mk2 Try.mixed dkHo_ok (FnsR.cons (R_hwrong) (FnsR.cons (R_hread) (FnsR.nil))) EqsOk.nil) rfl Try.func35 (by kernel_rfl) (fun _ _ => LpsOk.nil _) (cs := [false, true, false]) (by kernel_rfl) (load2_w0 L Q fu fd off a h0 h1 h2 b0 b1 b3 b4 e0 e1 e2 e3 k3) w e vs hM ha
      | false =>
        have h1 : (ldP L Q a && true) = false := by rw [hp1]; rfl
        cases h2 : (ldQ L Q a && true) with
        | true =>
          have ht : ldT L Q a = true := by unfold ldT; rw [hp1]; exact h2
          have e0 : ldV hrG L Q a = ldZ hrG L Q a := by unfold ldV; rw [h0, ht]; rfl
          have e1 : ldV hrL L Q a = ldZ hrL L Q a := by unfold ldV; rw [h0, ht]; rfl
          have e2 : ldV hrF L Q a = ldZ hrF L Q a := by unfold ldV; rw [h0, ht]; rfl
          have e3 : ldB L Q a = true := by unfold ldB; rw [h0, ht]; rfl
          exact ctr_way (I := Id') (fun (W0 : World) (G : Nat → Prop) => SyOk.mk2 Try.mixed dkHo_ok (FnsR.cons (R_hwrong) (FnsR.cons (R_hread) (FnsR.nil))) EqsOk.nil) rfl Try.func35 (by kernel_rfl) (fun _ _ => LpsOk.nil _) (cs := [false, false, true]) (by kernel_rfl) (load3_w0 L Q fu fd off a h0 h1 h2 b0 b1 b3 b4 e0 e1 e2 e3 k3) w e vs hM ha
        | false =>
          have ht : ldT L Q a = false := by unfold ldT; rw [hp1]; exact h2
          have e0 : ldV hrG L Q a = 0 := by unfold ldV; rw [h0, ht]; rw [hp1]; rfl
          have e1 : ldV hrL L Q a = 0 := by unfold ldV; rw [h0, ht]; rw [hp1]; rfl
          have e2 : ldV hrF L Q a = 0 := by unfold ldV; rw [h0, ht]; rw [hp1]; rfl
          have e3 : ldB L Q a = false := by unfold ldB; rw [h0, ht]; rw [hp1]; rfl
          exact ctr_way (I := Id') (fun (W0 : World) (G : Nat → Prop) => SyOk.mk2 Try.mixed dkHo_ok (FnsR.cons (R_hwrong) (FnsR.cons (R_hread) (FnsR.nil))) EqsOk.nil) rfl Try.func35 (by kernel_rfl) (fun _ _ => LpsOk.nil _) (cs := [false, false, false]) (by kernel_rfl) (load4_w0 L Q fu fd off a h0 h1 h2 b0 b1 b3 b4 e0 e1 e2 e3 k3) w e vs hM ha
  · cases h
end Go.Proofs.Ytonomiljclemnaa
set_option linter.unusedVariables false
set_option linter.unusedSimpArgs false
namespace Go.Proofs.Ytonomiljclemnaa
open Go.RowKit
end Go.Proofs.Ytonomiljclemnaa
set_option linter.unusedVariables false
set_option linter.unusedSimpArgs false
namespace Go.Proofs.Ytonomiljclemnaa
open Go.RowKit
end Go.Proofs.Ytonomiljclemnaa
set_option linter.unusedVariables false
set_option linter.unusedSimpArgs false
namespace Go.Proofs.Ytonomiljclemnaa
open Go.RowKit
def fst1 (d : DoD) (s : DS) : DS := bif d.kind == 1 then flS 6 s else wrS 6 (withI d.at' 0 5) (sectO d.b) s
theorem wr_at {d : DoD} : (wrongI 6 (withI d.at' 0 5) == 0) = true := by
  have h := withI_in d.at' (show (0 : Int) ≤ 5 by decide)
  unfold wrongI
  have h1 : ((6 : Int) == 0) = false := rfl
  have h2 : (decide (withI d.at' 0 5 < 0) || decide (withI d.at' 0 5 ≥ 6)) = false := by
    rw [Bool.or_eq_false_iff, decide_eq_false_iff_not, decide_eq_false_iff_not]; omega
  rw [h1, h2]; rfl
theorem wr_b {d : DoD} : wrB 6 (withI d.at' 0 5) ((sectO d.b).length : Int) = true := by
  unfold wrB
  rw [wr_at, sect_len]; rfl
theorem fst1_st (d : DoD) (s : DS) : (fst1 d s).fd = s.fd ∧ (fst1 d s).fu = stFu s.off s.fd s.fu ∧ (fst1 d s).off = stOff s.off s.fd s.fu := by
  unfold fst1
  cases d.kind == 1
  · show (wrS 6 _ _ s).fd = _ ∧ (wrS 6 _ _ s).fu = _ ∧ (wrS 6 _ _ s).off = _
    refine ⟨rfl, ?_, ?_⟩
    · show wrFu ((6 : Nat) : Int) _ _ _ _ _ = _
      unfold wrFu
      rw [show ((6 : Nat) : Int) = 6 from rfl, wr_b]; rfl
    · show wrOff ((6 : Nat) : Int) _ _ _ _ _ = _
      unfold wrOff
      rw [show ((6 : Nat) : Int) = 6 from rfl, wr_b]; rfl
  · exact ⟨rfl, rfl, rfl⟩
structure FInv (n : Int) (k : Nat) (s : DS) : Prop where
  d : DInv 6 (30 + k) s
  fd : s.fd = true
  fu : s.fu = if n ≤ k then 0 else n - k
  off : s.off = decide (n < k)
theorem FInv.st {n : Int} {k : Nat} {s : DS} (h : FInv n k s) : stOff s.off s.fd s.fu = decide (n ≤ k) := by
  unfold stOff
  rw [h.off, h.fd, h.fu]
  by_cases h1 : n ≤ k
  · simp [h1]
  · simp [h1]; omega
theorem FInv.next {n : Int} {k : Nat} {s : DS} (h : FInv n k s) (hn : n ≤ 20) (hk : k ≤ 1000) (d : DoD) : FInv n (k + 1) (fst1 d s) := by
  obtain ⟨h1, h2, h3⟩ := fst1_st d s
  refine ⟨?_, h1.trans h.fd, ?_, ?_⟩
  · unfold fst1
    cases d.kind == 1
    · exact wr_inv h.d (by decide) _ _
    · exact fl_inv h.d (by decide) (show 30 + k ≤ 100000 by omega)
  · rw [h2]
    unfold stFu
    rw [h.off, h.fd, h.fu]
    by_cases h1 : n ≤ k
    · rw [if_pos h1, if_pos (by omega)]
      simp
    · rw [if_neg h1]
      have h4 : (!decide (n < (k : Int)) && (true && !(n - (k : Int) == 0))) = true := by
        have h5 : (n - (k : Int) == 0) = false := beq_eq_false_iff_ne.2 (by omega)
        rw [h5, decide_eq_false (by omega)]; rfl
      rw [h4, cond_true, IntWalk.i64_in _ (by omega)]
      by_cases h6 : n ≤ ((k + 1 : Nat) : Int)
      · rw [if_pos h6]; omega
      · rw [if_neg h6]; omega
  · rw [h3, h.st]
    congr 1
    exact propext ⟨fun h => by omega, fun h => by omega⟩
end Go.Proofs.Ytonomiljclemnaa
set_option linter.unusedVariables false
set_option linter.unusedSimpArgs false
namespace Go.Proofs.Ytonomiljclemnaa
open Go.RowKit
section
variable {P : Program} {α β : Type}
end
end Go.Proofs.Ytonomiljclemnaa
set_option linter.unusedVariables false
set_option linter.unusedSimpArgs false
namespace Go.Proofs.Ytonomiljclemnaa
open Go.RowKit
section
variable {W0 : World} {G : Nat → Prop} {w : World} {e : Env} {mem : Mem Td}
end
end Go.Proofs.Ytonomiljclemnaa
set_option linter.unusedVariables false
set_option linter.unusedSimpArgs false
namespace Go.Proofs.Ytonomiljclemnaa
open Go.RowKit
section
variable {S : Sy Td} {W0 : World} {G : Nat → Prop} {base : List (Nat × SV)} {sz : Nat} {l : List Oper}
end
end Go.Proofs.Ytonomiljclemnaa
set_option linter.unusedVariables false
set_option linter.unusedSimpArgs false
namespace Go.Proofs.Ytonomiljclemnaa
open Go.RowKit
section
variable {W0 : World} {G : Nat → Prop} {sz : Nat}
end
end Go.Proofs.Ytonomiljclemnaa
set_option linter.unusedVariables false
set_option linter.unusedSimpArgs false
namespace Go.Proofs.Ytonomiljclemnaa
open Go.RowKit
end Go.Proofs.Ytonomiljclemnaa
set_option linter.unusedVariables false
set_option linter.unusedSimpArgs false
namespace Go.Proofs.Ytonomiljclemnaa
open Go.RowKit
end Go.Proofs.Ytonomiljclemnaa
set_option linter.unusedVariables false
set_option linter.unusedSimpArgs false
namespace Go.Proofs.Ytonomiljclemnaa
open Go.RowKit
structure NewIs (n : Int) (L0 : List (List UInt8)) : Prop where
  n1 : 1 ≤ n ∧ n ≤ 4096
  eq : List.replicate n.toNat sec0 = L0
structure SaveIs (s : DS) (i ep gn tl fl e1 : Int) (s1 : DS) : Prop where
  a0 : 0 ≤ ep ∧ 0 ≤ gn
  a1 : 0 ≤ tl ∧ tl < 18446744073709551616
  a2 : 0 ≤ fl ∧ fl < 18446744073709551616
  a3 : s.Q.length + 1 ≤ 100000
  a4 : WidQ (svT s i ep gn tl fl).Q
  a5 : AtQ s.L.length (svT s i ep gn tl fl).Q
  e : svE s i ep gn tl fl = e1
  s : svS s i ep gn tl fl = s1
structure LoadIs (L : List (List UInt8)) (Q : List (Int × List UInt8)) (a g t f : Int) (b : Bool) (e : Int) : Prop where
  a0 : WidL L
  a1 : WidQ Q
  a2 : L.length ≤ 100000
  g : ldV hrG L Q a = g
  t : ldV hrL L Q a = t
  f : ldV hrF L Q a = f
  b : ldB L Q a = b
  e : hwI (L.length : Int) a = e
def C_newX (L0 : List (List UInt8)) : Ctr Td := fun us sub => match us, sub with
  | [.one (.v (.int .i64 n))], [] => some ([NewIs n L0], .tup [.one (.ptr 0 0), .one (.kI .i64 0)], [⟨.bx [.obj 1, .obj 2, .v (.int .i64 0), .v (.bool false), .v (.bool false)], true⟩, ⟨.us (.ext (.flat (.secs L0))), true⟩, ⟨.us (.ext (.flat (.pens []))), true⟩])
  | _, _ => none
def C_saveX (e1 : Int) (s1 : DS) : Ctr Td := fun us sub => match us, sub with
  | [.one (.ptr 0 0), .one (.v (.int .i64 i)), .one (.v (.int .u64 ep)), .agg [.v (.int .u64 gn), .v (.int .u64 tl), .v (.int .u64 fl)]], [⟨.bx [.obj 1, .obj 2, .v (.int .i64 fu), .v (.bool fd), .v (.bool off)], true⟩, ⟨.us (.ext (.flat (.secs L))), true⟩, ⟨.us (.ext (.flat (.pens Q))), true⟩] => some ([SaveIs (⟨L, Q, fu, fd, off⟩ : DS) i ep gn tl fl e1 s1], svV (.int .i64 e1), [⟨.bx [.obj 1, .obj 3, .v (.int .i64 s1.fu), .v (.bool s1.fd), .v (.bool s1.off)], true⟩, ⟨.us (.ext (.flat (.secs s1.L))), true⟩, ⟨.dead, true⟩, ⟨.us (.ext (.flat (.pens s1.Q))), true⟩])
  | _, _ => none
def C_loadX (g t f : Int) (b : Bool) (e : Int) : Ctr Td := fun us sub => match us, sub with
  | [.one (.ptr 0 0), .one (.v (.int .i64 a))], [⟨.bx [.obj 1, .obj 2, .v (.int .i64 fu), .v (.bool fd), .v (.bool off)], true⟩, ⟨.us (.ext (.flat (.secs L))), true⟩, ⟨.us (.ext (.flat (.pens Q))), true⟩] => some ([LoadIs L Q a g t f b e], .tup [.agg [.v (.int .u64 g), .v (.int .u64 t), .v (.int .u64 f)], .one (.v (.bool b)), .one (.v (.int .i64 e))], [⟨.bx [.obj 1, .obj 2, .v (.int .i64 fu), .v (.bool fd), .v (.bool off)], true⟩, ⟨.us (.ext (.flat (.secs L))), true⟩, ⟨.us (.ext (.flat (.pens Q))), true⟩])
  | _, _ => none
set_option maxRecDepth 100000 in
theorem C_newX_ok (L0 : List (List UInt8)) : CtrOk Try.prog Id' 23 (C_newX L0) := by
  intro us sub ps x sm h hp w e_ vs hM ha
  unfold C_newX at h
  split at h
  · rename_i n
    simp only [Option.some.injEq, Prod.mk.injEq] at h
    obtain ⟨rfl, rfl, rfl⟩ := h
    have q := hp _ (List.mem_cons_self ..)
    obtain ⟨q0, rfl⟩ := q
    exact C_newG_ok _ _ _ _ _ rfl (fun q hq => by simp only [List.mem_cons, List.not_mem_nil, or_false] at hq; rcases hq with rfl <;> assumption) w e_ vs hM ha
  · cases h
theorem R_newX (L0 : List (List UInt8)) : RowOk Try.prog Id' hardD 23 (ctrF Id' (C_newX L0) hardD) := ctrF_ok Try.call23 (C_newX_ok L0)
set_option maxRecDepth 100000 in
theorem C_saveX_ok (e1 : Int) (s1 : DS) : CtrOk Try.prog Id' 36 (C_saveX e1 s1) := by
  intro us sub ps x sm h hp w e_ vs hM ha
  unfold C_saveX at h
  split at h
  · rename_i i ep gn tl fl fu fd off L Q
    simp only [Option.some.injEq, Prod.mk.injEq] at h
    obtain ⟨rfl, rfl, rfl⟩ := h
    have q := hp _ (List.mem_cons_self ..)
    obtain ⟨q0, q1, q2, q3, q4, q5, rfl, rfl⟩ := q
    exact C_save_ok _ _ _ _ _ rfl (fun q hq => by simp only [List.mem_cons, List.not_mem_nil, or_false] at hq; rcases hq with rfl | rfl | rfl | rfl | rfl | rfl <;> assumption) w e_ vs hM ha
  · cases h
theorem R_saveX (e1 : Int) (s1 : DS) : RowOk Try.prog Id' hardD 36 (ctrF Id' (C_saveX e1 s1) hardD) := ctrF_ok Try.call36 (C_saveX_ok e1 s1)
set_option maxRecDepth 100000 in
theorem C_loadX_ok (g t f : Int) (b : Bool) (e : Int) : CtrOk Try.prog Id' 35 (C_loadX g t f b e) := by
  intro us sub ps x sm h hp w e_ vs hM ha
  unfold C_loadX at h
  split at h
  · rename_i a fu fd off L Q
    simp only [Option.some.injEq, Prod.mk.injEq] at h
    obtain ⟨rfl, rfl, rfl⟩ := h
    have q := hp _ (List.mem_cons_self ..)
    obtain ⟨q0, q1, q2, rfl, rfl, rfl, rfl, rfl⟩ := q
    exact C_load_ok _ _ _ _ _ rfl (fun q hq => by simp only [List.mem_cons, List.not_mem_nil, or_false] at hq; rcases hq with rfl | rfl | rfl <;> assumption) w e_ vs hM ha
  · cases h
theorem R_loadX (g t f : Int) (b : Bool) (e : Int) : RowOk Try.prog Id' hardD 35 (ctrF Id' (C_loadX g t f b e) hardD) := ctrF_ok Try.call35 (C_loadX_ok g t f b e)
set_option maxRecDepth 100000 in
theorem hlives_w0 (L0 : List (List UInt8)) (s1 : DS) (h0 : NewIs 2 L0) (h1 : SaveIs (⟨L0, [], 0, false, false⟩ : DS) 0 1 1 7 2 0 s1) (h2 : LoadIs s1.L s1.Q 0 1 7 2 true 0) : ∃ qs, wayO Id' (([] : Mem Td) : Mem Td).length ([] : Mem Td) (svV (.bool true)) ((runFn (⟨Try.prog, [(23, ctrF Id' (C_newX L0) hardD), (36, ctrF Id' (C_saveX 0 s1) hardD), (35, ctrF Id' (C_loadX 1 7 2 true 0) hardD)], [], dkHo, Id'.one, 60⟩ : Sy Td) [] Try.f37 [] ([] : Mem Td)).al [false]) = some qs ∧ ∀ q ∈ qs, q :=
  ⟨[NewIs (2 : Int) L0, SaveIs (DS.mk L0 [] (0 : Int) false false) (0 : Int) (1 : Int) (1 : Int) (7 : Int) (2 : Int) (0 : Int) s1, false = false, LoadIs s1.L s1.Q (0 : Int) (1 : Int) (7 : Int) (2 : Int) true (0 : Int), Value.bool true = Value.bool true], by kernel_rfl, (by refine mcons ?_ (mcons ?_ (mcons ?_ (mcons ?_ (mcons ?_ mnil)))) <;> first | rfl | exact h0 | exact h1 | exact h2 | trivial | (exact Nat.le_of_ble_eq_true rfl))⟩
def hL0 : List (List UInt8) := List.replicate 2 sec0
def hS0 : DS := ⟨hL0, [], 0, false, false⟩
def hS1 : DS := svS hS0 0 1 1 7 2
theorem widQ_bool {Q : List (Int × List UInt8)} (h : ((Q.all fun q => q.2.length == 128) && decide (Q.length ≤ 100000)) = true) : WidQ Q := by
  rw [Bool.and_eq_true] at h
  exact ⟨fun q hq => eq_of_beq (List.all_eq_true.1 h.1 q hq), of_decide_eq_true h.2⟩
theorem atQ_bool {n : Nat} {Q : List (Int × List UInt8)} (h : (Q.all fun q => decide (0 ≤ q.1 ∧ q.1.toNat < n)) = true) : AtQ n Q := fun q hq => of_decide_eq_true (List.all_eq_true.1 h q hq)
theorem widL_bool {L : List (List UInt8)} (h : (L.all fun l => l.length == 128) = true) : WidL L := fun q hq => eq_of_beq (List.all_eq_true.1 h q hq)
theorem hlive0 : NewIs 2 hL0 := ⟨by decide, rfl⟩
theorem hlive1 : SaveIs hS0 0 1 1 7 2 0 hS1 := ⟨by decide, by decide, by decide, by decide, widQ_bool (by decide +kernel), atQ_bool (by decide +kernel), by decide +kernel, rfl⟩
theorem hlive2 : LoadIs hS1.L hS1.Q 0 1 7 2 true 0 := ⟨widL_bool (by decide +kernel), widQ_bool (by decide +kernel), by decide +kernel, by decide +kernel, by decide +kernel, by decide +kernel, by decide +kernel, by decide +kernel⟩
def C_hlives : Ctr Td := fun us sub => match us, sub with
  | [], [] => some ([], svV (.bool true), [])
  | _, _ => none
set_option maxRecDepth 100000 in
theorem C_hlives_ok : CtrOk Try.prog Id' 37 C_hlives := by
  intro us sub ps x sm h hp w e vs hM ha
  unfold C_hlives at h
  split at h
  · skip
    simp only [Option.some.injEq, Prod.mk.injEq] at h
    obtain ⟨rfl, rfl, rfl⟩ := h
    exact ctr_way (I := Id') (fun (W0 : World) (G : Nat → Prop) => SyOk.mk2 Try.mixed dkHo_ok (FnsR.cons (R_newX hL0) (FnsR.cons (R_saveX 0 hS1) (FnsR.cons (R_loadX 1 7 2 true 0) (FnsR.nil)))) EqsOk.nil) rfl Try.func37 (by kernel_rfl) (fun _ _ => LpsOk.nil _) (cs := [false]) (by kernel_rfl) (hlives_w0 hL0 hS1 hlive0 hlive1 hlive2) w e vs hM ha
  · cases h
theorem R_hlives : RowOk Try.prog Id' hardD 37 (ctrF Id' C_hlives hardD) := ctrF_ok Try.call37 C_hlives_ok
end Go.Proofs.Ytonomiljclemnaa
set_option linter.unusedVariables false
set_option linter.unusedSimpArgs false
namespace Go.Proofs.Ytonomiljclemnaa
open Go.RowKit
structure FuseIs (s : DS) (i : Int) (s1 : DS) : Prop where
  s : fuS s.L.length i s = s1
structure CrashIs (s : DS) (ks : List Int) (tn : Int) (s1 : DS) : Prop where
  a0 : WidQ s.Q
  a1 : AtQ s.L.length s.Q
  a2 : 0 < s.L.length
  s : crS ks tn s = s1
def C_fuseX (s1 : DS) : Ctr Td := fun us sub => match us, sub with
  | [.one (.ptr 0 0), .one (.v (.int .i64 i))], [⟨.bx [.obj 1, .obj 2, .v (.int .i64 fu), .v (.bool fd), .v (.bool off)], true⟩, ⟨.us (.ext (.flat (.secs L))), true⟩, ⟨.us (.ext (.flat (.pens Q))), true⟩] => some ([FuseIs (⟨L, Q, fu, fd, off⟩ : DS) i s1], svV (.int .i64 (fuE (L.length : Int) i off)), [⟨.bx [.obj 1, .obj 2, .v (.int .i64 s1.fu), .v (.bool s1.fd), .v (.bool s1.off)], true⟩, ⟨.us (.ext (.flat (.secs s1.L))), true⟩, ⟨.us (.ext (.flat (.pens s1.Q))), true⟩])
  | _, _ => none
def C_crashX (s1 : DS) : Ctr Td := fun us sub => match us, sub with
  | [.one (.ptr 0 0), .one (.obj 1), .one (.v (.int .i64 tn))], [⟨.bx [.obj 2, .obj 3, .v (.int .i64 fu), .v (.bool fd), .v (.bool off)], true⟩, ⟨.us (.ext (.nums ks)), false⟩, ⟨.us (.ext (.flat (.secs L))), true⟩, ⟨.us (.ext (.flat (.pens Q))), true⟩] => some ([CrashIs (⟨L, Q, fu, fd, off⟩ : DS) ks tn s1], .tup [], [⟨.bx [.obj 2, .obj 4, .v (.int .i64 s1.fu), .v (.bool s1.fd), .v (.bool s1.off)], true⟩, ⟨.us (.ext (.nums ks)), false⟩, ⟨.us (.ext (.flat (.secs s1.L))), true⟩, ⟨.dead, true⟩, ⟨.us (.ext (.flat (.pens s1.Q))), true⟩])
  | _, _ => none
structure HDo where
  kind : Int
  at' : Int
  n : Int
  ep : Int
  g : Int
  t : Int
  f : Int
  b : List UInt8
  ks : List Int
def HDo.zero : HDo := ⟨0, 0, 0, 0, 0, 0, 0, [], []⟩
def hdEl (l : List HDo) (i : Nat) : List CD := [.v (.int .i64 (l.getD i HDo.zero).kind), .v (.int .i64 (l.getD i HDo.zero).at'), .v (.int .i64 (l.getD i HDo.zero).n), .v (.int .u64 (l.getD i HDo.zero).ep), .v (.int .u64 (l.getD i HDo.zero).g), .v (.int .u64 (l.getD i HDo.zero).t), .v (.int .u64 (l.getD i HDo.zero).f), .bs (l.getD i HDo.zero).b, .ns (l.getD i HDo.zero).ks]
structure HKS where
  s : DS
  ep : Int
  sg : Int
  st : Int
  sf : Int
  has : Bool
  mg : Int
  mt : Int
  mf : Int
  db : Bool
set_option maxRecDepth 100000 in
theorem C_fuseX_ok (s1 : DS) : CtrOk Try.prog Id' 30 (C_fuseX s1) := by
  intro us sub ps x sm h hp w e_ vs hM ha
  unfold C_fuseX at h
  split at h
  · rename_i i fu fd off L Q
    simp only [Option.some.injEq, Prod.mk.injEq] at h
    obtain ⟨rfl, rfl, rfl⟩ := h
    have q := hp _ (List.mem_cons_self ..)
    obtain ⟨rfl⟩ := q
    exact C_fuse_ok _ _ _ _ _ rfl (fun q hq => by cases hq) w e_ vs hM ha
  · cases h
theorem R_fuseX (s1 : DS) : RowOk Try.prog Id' hardD 30 (ctrF Id' (C_fuseX s1) hardD) := ctrF_ok Try.call30 (C_fuseX_ok s1)
set_option maxRecDepth 100000 in
theorem C_crashX_ok (s1 : DS) : CtrOk Try.prog Id' 16 (C_crashX s1) := by
  intro us sub ps x sm h hp w e_ vs hM ha
  unfold C_crashX at h
  split at h
  · rename_i tn fu fd off ks L Q
    simp only [Option.some.injEq, Prod.mk.injEq] at h
    obtain ⟨rfl, rfl, rfl⟩ := h
    have q := hp _ (List.mem_cons_self ..)
    obtain ⟨q0, q1, q2, rfl⟩ := q
    exact C_crash_ok _ _ _ _ _ rfl (fun q hq => by simp only [List.mem_cons, List.not_mem_nil, or_false] at hq; rcases hq with rfl | rfl | rfl <;> assumption) w e_ vs hM ha
  · cases h
theorem R_crashX (s1 : DS) : RowOk Try.prog Id' hardD 16 (ctrF Id' (C_crashX s1) hardD) := ctrF_ok Try.call16 (C_crashX_ok s1)
end Go.Proofs.Ytonomiljclemnaa
