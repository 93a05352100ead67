/- W1. -/
import Derived.Test.YtdenmoiaiemokaaH13p
import Derived.Lib.Bytealg
import Derived.Lib.Strings
import Derived.Lib.Slices
import Derived.Lib.Walk
set_option linter.unusedVariables false
set_option linter.unusedSimpArgs false
namespace Go.Proofs.Ytdenmoiaiemokaa
open Go.RowKit
set_option maxHeartbeats 1000000 in
set_option maxRecDepth 100000 in
theorem cmpstr_c (a b:ByteArray) (w:World):
  Calls Try.prog 160 #[.string a,.string b] w fun e w'=>e=.returned (.int .i64 (Lib.compareBytes a.data.toList b.data.toList))∧w'=w:=by
 go_enter Try.func160,Try.ntmps160
 go_wp2
 rw [run_callFunc_extern Try.func178 (by kernel_rfl) (by kernel_rfl) (by kernel_rfl) (e:=Extern.BytealgCompare.compare) (by kernel_rfl),Lib.run_compareString]
 simp only [Result.andThen]
 rw [Oper.upon_value]
 go_wp2
 go_ret
 exact ⟨rfl,rfl⟩
set_option maxHeartbeats 1000000 in
theorem strcmp_c (a b:ByteArray) (w:World):
  Calls Try.prog 132 #[.string a,.string b] w fun e w'=>e=.returned (.int .i64 (Lib.compareBytes a.data.toList b.data.toList))∧w'=w:=by
 go_enter Try.func132,Try.ntmps132
 go_wp2_with (go_at_call 160;refine (cmpstr_c _ _ _).mono ?_;rintro e w' ⟨rfl,rfl⟩)
 go_ret
 exact ⟨rfl,rfl⟩
def cmpS (a b:ByteArray):Int:=Lib.compareBytes a.data.toList b.data.toList
def F_strcmp:Nat×Fn2 Td:=(132,vfn fun us=>match us with|[.string a,.string b]=>some ([],.int .i64 (cmpS a b))|_=>none)
theorem F_strcmp_ok:RowOk Try.prog Id' hardD F_strcmp.1 F_strcmp.2:=by
 refine vfn_ok Try.call132 fun args ps r hs hp w=>?_
 split at hs
 ·simp only [Option.some.injEq,Prod.mk.injEq] at hs
  obtain ⟨rfl,rfl⟩:=hs
  exact (strcmp_c _ _ w).mono fun x w' ⟨h1,h2⟩=>⟨h1,by subst h2;exact Ext.refl _⟩
 ·cases hs
end Go.Proofs.Ytdenmoiaiemokaa
