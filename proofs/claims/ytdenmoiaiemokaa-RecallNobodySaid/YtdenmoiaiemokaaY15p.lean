/- W9 W10 W11 W12 W13 W14 W15 W16 Y7 Y8 Y9 Y10 Y11 Y12 Y13 Y14 Y15. -/
import Derived.Test.YtdenmoiaiemokaaW8p
import Derived.Laws.RangeAny
import Derived.Laws.RangeString
import Derived.Lib.OthersKept
import Derived.LoopTactic
import Derived.IntWalk
import Derived.Test.YtdenmoiaiemokaaW7p
import Derived.Test.YtdenmoiaiemokaaH13p
set_option linter.unusedVariables false
set_option linter.unusedSimpArgs false
namespace Go.Proofs.Ytdenmoiaiemokaa
open Go.RowKit
end Go.Proofs.Ytdenmoiaiemokaa
set_option linter.unusedVariables false
set_option linter.unusedSimpArgs false
namespace Go.Proofs.Ytdenmoiaiemokaa
open Go.RowKit
end Go.Proofs.Ytdenmoiaiemokaa
set_option linter.unusedVariables false
set_option linter.unusedSimpArgs false
namespace Go.Proofs.Ytdenmoiaiemokaa
open Go.RowKit
end Go.Proofs.Ytdenmoiaiemokaa
set_option linter.unusedVariables false
set_option linter.unusedSimpArgs false
namespace Go.Proofs.Ytdenmoiaiemokaa
open Go.RowKit
end Go.Proofs.Ytdenmoiaiemokaa
set_option linter.unusedVariables false
set_option linter.unusedSimpArgs false
namespace Go.Proofs.Ytdenmoiaiemokaa
open Go.RowKit
end Go.Proofs.Ytdenmoiaiemokaa
set_option linter.unusedVariables false
set_option linter.unusedSimpArgs false
namespace Go.Proofs.Ytdenmoiaiemokaa
open Go.RowKit
def fstI (n:Nat) (p:Int→Bool):Int:=match (List.range n).find? (fun j:Nat=>!p (j:Int)) with|some j=>(j:Int)|none=>-1
theorem fst_cases (n:Nat) (p:Int→Bool):(fstI n p=-1∧∀ i:Int,((0:Nat):Int)≤i→i.toNat<n→p i=true)∨(((0:Nat):Int)≤fstI n p∧(fstI n p).toNat<n∧p (fstI n p)=false∧∀ i:Int,((0:Nat):Int)≤i→i<fstI n p→p i=true):=by
 unfold fstI
 cases h:(List.range n).find? (fun j:Nat=>!p (j:Int)) with
 |none=>
  refine .inl ⟨rfl,fun i h0 h1=>?_⟩
  have:=List.find?_eq_none.1 h i.toNat (List.mem_range.2 h1)
  rw [Int.toNat_of_nonneg (by omega)] at this
  simpa using this
 |some j=>
  obtain ⟨h1,h2,h3⟩:=List.find?_range_eq_some.1 h
  have h4:=List.mem_range.1 h2
  refine .inr ⟨by simp,by simpa using h4,by simpa using h1,fun i h0 hi=>?_⟩
  have hi:i<(j:Int):=hi
  have:=h3 i.toNat (by omega)
  rw [Int.toNat_of_nonneg (by omega)] at this
  simpa using this
end Go.Proofs.Ytdenmoiaiemokaa
set_option linter.unusedVariables false
set_option linter.unusedSimpArgs false
namespace Go.Proofs.Ytdenmoiaiemokaa
open Go.RowKit
end Go.Proofs.Ytdenmoiaiemokaa
set_option linter.unusedVariables false
set_option linter.unusedSimpArgs false
namespace Go.Proofs.Ytdenmoiaiemokaa
open Go.RowKit
end Go.Proofs.Ytdenmoiaiemokaa
set_option linter.unusedVariables false
set_option linter.unusedSimpArgs false
namespace Go.Proofs.Ytdenmoiaiemokaa
open Go.RowKit
def hitR (Y:List Rw) (a b c i:Int):Bool:=(Y.getD i.toNat Rw.zero).is.getD 0 0==a&&((Y.getD i.toNat Rw.zero).is.getD 1 0==b&&true)&&(Y.getD i.toNat Rw.zero).is.getD 2 0==c
def atP (Y:List Rw) (a b c i:Int):Bool:=!hitR Y a b c i
def atE (Y:List Rw) (a b c:Int):Int:=fstI Y.length (atP Y a b c)
theorem hit_no {Y:List Rw} {a b c i:Int} (h:atP Y a b c i=true):hitR Y a b c i=false:=by simpa [atP] using h
theorem hit_yes {Y:List Rw} {a b c i:Int} (h:atP Y a b c i=false):hitR Y a b c i=true:=by simpa [atP] using h
end Go.Proofs.Ytdenmoiaiemokaa
set_option linter.unusedVariables false
set_option linter.unusedSimpArgs false
namespace Go.Proofs.Ytdenmoiaiemokaa
open Go.RowKit
end Go.Proofs.Ytdenmoiaiemokaa
set_option linter.unusedVariables false
set_option linter.unusedSimpArgs false
namespace Go.Proofs.Ytdenmoiaiemokaa
open Go.RowKit
end Go.Proofs.Ytdenmoiaiemokaa
set_option linter.unusedVariables false
set_option linter.unusedSimpArgs false
namespace Go.Proofs.Ytdenmoiaiemokaa
open Go.RowKit
end Go.Proofs.Ytdenmoiaiemokaa
set_option linter.unusedVariables false
set_option linter.unusedSimpArgs false
namespace Go.Proofs.Ytdenmoiaiemokaa
open Go.RowKit
def hsE (Y:List Rw) (a b c:Int):Bool:=!(fstI Y.length (atP Y a b c)==-1)
end Go.Proofs.Ytdenmoiaiemokaa
set_option linter.unusedVariables false
set_option linter.unusedSimpArgs false
namespace Go.Proofs.Ytdenmoiaiemokaa
open Go.RowKit
def wtE (Y:List Rw) (a b c:Int):Int:=bif (decide (c<0)||decide (c>7)) then 2 else bif hsE Y a b c then 10 else 0
def wtT (Y:List Rw) (a b c:Int):List Rw:=bif (decide (c<0)||decide (c>7)) then Y else bif hsE Y a b c then Y else Y++[⟨[a,b,c],[]⟩]
end Go.Proofs.Ytdenmoiaiemokaa
set_option linter.unusedVariables false
set_option linter.unusedSimpArgs false
namespace Go.Proofs.Ytdenmoiaiemokaa
open Go.RowKit
theorem nil_rw3 {t:TypeId} {ks:List Bool} {X:List Rw} (h:X=[]):∀ w,Id'.holds (Th.ext (Dk.flat (FL.rw t ks X)):Td) w nilV∧∀ j,¬ Id'.foot (Th.ext (Dk.flat (FL.rw t ks X)):Td) w nilV j:=by
 subst h
 exact fun w=>⟨⟨(fun r hr=>by cases hr),0,Nat.zero_le _,owns_nilV w 0 _ _⟩,(fun j h=>by cases h)⟩
end Go.Proofs.Ytdenmoiaiemokaa
set_option linter.unusedVariables false
set_option linter.unusedSimpArgs false
namespace Go.Proofs.Ytdenmoiaiemokaa
open Go.RowKit
end Go.Proofs.Ytdenmoiaiemokaa
set_option linter.unusedVariables false
set_option linter.unusedSimpArgs false
namespace Go.Proofs.Ytdenmoiaiemokaa
open Go.RowKit
def neS (Y:List Rw) (a b:Int) (L:List Int):Nat→List Rw×Int
 |0=>(Y,0)
 |k+1=>(wtT (neS Y a b L k).1 a b (L.getD k 0),bif wtE (neS Y a b L k).1 a b (L.getD k 0)==0 then (neS Y a b L k).2+1 else (neS Y a b L k).2)
theorem wtT_len (Y:List Rw) (a b c:Int):(wtT Y a b c).length≤Y.length+1:=by
 unfold wtT
 cases (decide (c<0)||decide (c>7)) with
 |true=>simp only [cond_true];omega
 |false=>
  cases hsE Y a b c with
  |true=>simp only [cond_true,cond_false];omega
  |false=>simp only [cond_false,List.length_append,List.length_cons,List.length_nil];omega
theorem neS_len (Y:List Rw) (a b:Int) (L:List Int):∀ k,(neS Y a b L k).1.length≤Y.length+k∧0≤(neS Y a b L k).2∧(neS Y a b L k).2≤(k:Int)
 |0=>⟨Nat.le_refl _,Int.le_refl _,Int.le_refl _⟩
 |k+1=>by
  obtain ⟨h1,h2,h3⟩:=neS_len Y a b L k
  have h4:=wtT_len (neS Y a b L k).1 a b (L.getD k 0)
  refine ⟨by show (wtT _ _ _ _).length≤_;omega,?_⟩
  show 0≤(bif _ then _ else _)∧(bif _ then _ else _)≤_
  cases wtE (neS Y a b L k).1 a b (L.getD k 0)==0 with
  |true=>simp only [cond_true];omega
  |false=>simp only [cond_false];omega
end Go.Proofs.Ytdenmoiaiemokaa
