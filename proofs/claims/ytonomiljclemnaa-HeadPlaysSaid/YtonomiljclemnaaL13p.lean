/- L13. -/
import Derived.Test.YtonomiljclemnaaL12p
set_option linter.unusedVariables false
set_option linter.unusedSimpArgs false
namespace Go.Proofs.Ytonomiljclemnaa
open Go.RowKit
def secNL (l:List UInt8):Nat:=if isSec l then 0 else 4
def secP (l:List UInt8):Pc:=if isSec l then pcOf l else ⟨0,0,false,false,[]⟩
theorem unseal_x (v:Value) (l:List UInt8) (w:World) (hv:Bs w v l):
  Calls Try.prog 54 #[v] w fun r w'=>∃ ao cap,r=.returned (.tuple #[(secP l).agg (.slice ao (secP l).d.length cap),.int .i64 (secNL l:Int)])∧Ext w w'∧w'.ownsRow w.heap.size 5 1 (.slice ao (secP l).d.length cap) (secP l).d.length ((secP l).d.map bv):=by
 unfold secP secNL
 refine (unseal_c v l w hv).mono ?_
 rintro r w' ⟨hx,⟨hs,ao,cap,h1,h2⟩|⟨hs,h1⟩⟩
 ·rw [if_pos hs,if_pos hs];exact ⟨ao,cap,h1,hx,h2⟩
 ·rw [if_neg hs,if_neg hs];exact ⟨none,0,h1,hx,World.ownsRow_nil _ _ _ _⟩
theorem runseal_x (v:Value) (l:List UInt8) (w:World) (hv:Bs w v l):
  Calls Try.prog 69 #[v] w fun r w'=>∃ ao cap,r=.returned (.tuple #[(secP l).agg (.slice ao (secP l).d.length cap),.int .i64 (secNL l:Int)])∧Ext w w'∧w'.ownsRow w.heap.size 5 1 (.slice ao (secP l).d.length cap) (secP l).d.length ((secP l).d.map bv):=by
 unfold secP secNL
 refine (runseal_c v l w hv).mono ?_
 rintro r w' ⟨hx,⟨hs,ao,cap,h1,h2⟩|⟨hs,h1⟩⟩
 ·rw [if_pos hs,if_pos hs];exact ⟨ao,cap,h1,hx,h2⟩
 ·rw [if_neg hs,if_neg hs];exact ⟨none,0,h1,hx,World.ownsRow_nil _ _ _ _⟩
end Go.Proofs.Ytonomiljclemnaa
