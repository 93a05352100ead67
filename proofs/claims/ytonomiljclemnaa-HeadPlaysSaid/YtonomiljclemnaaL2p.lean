/- L2. -/
import Derived.Test.YtonomiljclemnaaL1p
import Derived.Test.YtonomiljclemnaaG0p
import Derived.Laws.OwnMore
import Derived.Deep.AppendLies
import Derived.RegionTactic
import Derived.Deep.CutBlock
import Derived.Deep.DeepCutAuto
import Derived.Laws.Bits64
import Derived.Laws.BitsAllLaws
import Derived.Deep.QuietTactic
set_option linter.unusedVariables false
set_option linter.unusedSimpArgs false
namespace Go.Proofs.Ytonomiljclemnaa
open Go.RowKit
theorem p_stamp (e c:Nat) (he:e≤16777215) (hc:c≤1099511627775):bits .or .u64 ((e:Int) * 1099511627776 % 18446744073709551616) (c:Int)=((e * 1099511627776+c:Nat):Int):=by
 have e1:(e:Int) * 1099511627776 % 18446744073709551616=((e * 1099511627776:Nat):Int):=by omega
 rw [e1,u64_or_nat _ _ (by omega) (by omega)]
 have:=Nat.shiftLeft_add_eq_or_of_lt (a:=e) (b:=c) (i:=40) (by omega)
 rw [Nat.shiftLeft_eq] at this
 rw [show (1099511627776:Nat)=2 ^ 40 by decide,this]
theorem p_count (s:Nat) (hs:s<18446744073709551616):bits .and .u64 (s:Int) 1099511627775=((s % 1099511627776:Nat):Int):=by
 have:=u64_and_nat s 1099511627775 hs (by decide)
 rw [show (1099511627775:Nat)=2 ^ 40 - 1 by decide,Nat.and_two_pow_sub_one_eq_mod] at this
 exact this
set_option maxHeartbeats 400000 in
theorem stamp_ok (e c:Nat) (w:World) (he:e≤16777215) (hc:c≤1099511627775):
  Calls Try.prog 61 #[.int .u64 e,.int .u64 c] w fun r w'=>r=.returned (.tuple #[.int .u64 ((e * 1099511627776+c:Nat):Int),.int .i64 0])∧w'=w:=by
 have h1:decide ((16777215:Int)<(e:Int))=false:=by simp;omega
 have h2:decide ((1099511627775:Int)<(c:Int))=false:=by simp;omega
 have HS:=Lib.hid (p_stamp e c he hc)
 clear he hc
 go_enter Try.func61,Try.ntmps61
 go_wp2_with fail
 refine bodyPost_ret (v:=.tuple #[.int .u64 ((e * 1099511627776+c:Nat):Int),.int .i64 0]) (by simp [results,Try.results61,go_sem];exact HS.out) rfl ⟨rfl,rfl⟩
set_option maxHeartbeats 400000 in
theorem stamp_bad (e c:Nat) (w:World) (h:16777215<e∨1099511627775<c):
  Calls Try.prog 61 #[.int .u64 e,.int .u64 c] w fun r w'=>r=.returned (.tuple #[.int .u64 0,.int .i64 2])∧w'=w:=by
 by_cases h0:16777215<e
 ·have h1:decide ((16777215:Int)<(e:Int))=true:=by simp;omega
  clear h h0
  go_enter Try.func61,Try.ntmps61
  go_wp2_with fail
  refine bodyPost_ret (v:=.tuple #[.int .u64 0,.int .i64 2]) (by simp [results,Try.results61,go_sem]) rfl ⟨rfl,rfl⟩
 ·have h1:decide ((16777215:Int)<(e:Int))=false:=by simp;omega
  have h2:decide ((1099511627775:Int)<(c:Int))=true:=by simp;omega
  clear h h0
  go_enter Try.func61,Try.ntmps61
  go_wp2_with fail
  refine bodyPost_ret (v:=.tuple #[.int .u64 0,.int .i64 2]) (by simp [results,Try.results61,go_sem]) rfl ⟨rfl,rfl⟩
set_option maxHeartbeats 400000 in
theorem epoch_c (s:Nat) (w:World):
  Calls Try.prog 72 #[.int .u64 s] w fun r w'=>r=.returned (.int .u64 ((s / 1099511627776:Nat):Int))∧w'=w:=by
 go_enter Try.func72,Try.ntmps72
 go_wp2_with fail
 go_ret
 exact ⟨congrArg (fun x=>Ending.returned (Value.int .u64 x)) (by omega),rfl⟩
set_option maxHeartbeats 400000 in
theorem count_c (s:Nat) (w:World) (hs:s<18446744073709551616):
  Calls Try.prog 73 #[.int .u64 s] w fun r w'=>r=.returned (.int .u64 ((s % 1099511627776:Nat):Int))∧w'=w:=by
 have HS:=Lib.hid (p_count s hs)
 clear hs
 go_enter Try.func73,Try.ntmps73
 go_wp2_with fail
 go_ret
 exact ⟨congrArg (fun x=>Ending.returned (Value.int .u64 x)) HS.out,rfl⟩
def Pc.agg (p:Pc) (v:Value):Value:=.agg #[.int .u64 p.ep,.int .u64 p.ct,.bool p.fi,.bool p.la,v]
set_option maxHeartbeats 400000 in
theorem flags_c (ep ct:Int) (fi la:Bool) (v:Value) (w:World):
  Calls Try.prog 63 #[.agg #[.int .u64 ep,.int .u64 ct,.bool fi,.bool la,v]] w fun r w'=>r=.returned (.int .u8 ((fi.toNat+2 * la.toNat:Nat):Int))∧Ext w w':=by
 cases fi<;>cases la
 all_goals
  go_enter Try.func63,Try.ntmps63
  go_wp2_with fail
  go_ret
  exact ⟨by rfl,(Ext.refl w).alloc _⟩
end Go.Proofs.Ytonomiljclemnaa
