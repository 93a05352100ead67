/- H62. -/
import Derived.Test.YtonomiljclemnaaH60p
import Derived.Test.YtonomiljclemnaaL12p
set_option linter.unusedVariables false
set_option linter.unusedSimpArgs false
namespace Go.Proofs.Ytonomiljclemnaa
open Go.RowKit
def pcI (ep ct:Int) (fi la:Bool) (d:List UInt8):Pc:=⟨ep.toNat,ct.toNat,fi,la,d⟩
def C_seal:Ctr Td:=fun us sub=>match us,sub with
 |[.agg [.v (.int .u64 ep),.v (.int .u64 ct),.v (.bool fi),.v (.bool la),.obj 0]],[⟨.us (.own d),true⟩]=>some ([0≤ep∧0≤ct],.tup [.one (.obj 1),.one (.v (.int .i64 (okN (pcI ep ct fi la d):Int)))],[⟨.us (.own d),true⟩,⟨.us (.own (okL (pcI ep ct fi la d))),true⟩])
 |_,_=>none
theorem C_seal_ok:CtrOk Try.prog Id' 50 C_seal:=by
 intro us sub ps x sm h hp w e vs hM ha
 unfold C_seal at h
 split at h
 ·rename_i ep ct fi la d
  simp only [Option.some.injEq,Prod.mk.injEq] at h
  obtain ⟨rfl,rfl,rfl⟩:=h
  have h0:0≤ep∧0≤ct:=hp _ (by simp)
  match vs,ha with
  |[v],ha=>
   obtain ⟨us,hu,rfl⟩:=ha.1
   match us,hu with
   |[a1,a2,a3,a4,u],⟨q1,q2,q3,q4,hE,_⟩=>
    have q1:a1=.int .u64 ep:=q1
    have q2:a2=.int .u64 ct:=q2
    have q3:a3=.bool fi:=q3
    have q4:a4=.bool la:=q4
    have hE:e[0]? =some u:=hE
    subst q1 q2 q3 q4
    obtain ⟨B,hB,hown⟩:Id'.holds (.own d) w u:=hM.holds 0 _ _ hE rfl
    have hb:Bs w u d:=Rs.of_owns hown
    have hlen:e.length=1:=hM.len
    have hagg:#[(.agg #[.int .u64 ep,.int .u64 ct,.bool fi,.bool la,u]:Value)]=#[(pcI ep ct fi la d).agg u]:=by
     unfold pcI Pc.agg
     rw [Int.toNat_of_nonneg h0.1,Int.toNat_of_nonneg h0.2]
    show Calls _ _ #[(.agg #[.int .u64 ep,.int .u64 ct,.bool fi,.bool la,u]:Value)] _ _
    rw [hagg]
    have hfin:∀ (s:Value),(e++[s])[1]? =some s:=fun s=>by rw [List.getElem?_append_right (by omega),hlen];rfl
    by_cases hok:(pcI ep ct fi la d).ok
    ·refine (seal_ok _ u w hok hb).mono fun r w' ⟨g,h1,h2,h3,h4⟩=>⟨_,e++[.slice (some ⟨g,0,none⟩) 128 128],h1,Grows.push _ _,⟨[.slice (some ⟨g,0,none⟩) 128 128,.int .i64 0],⟨(by show (e++[Value.slice (some ⟨g,0,none⟩) 128 128])[1]? =some _;exact hfin _),?_,trivial⟩,rfl⟩,hM.push h2 _ ⟨.us (.own (okL (pcI ep ct fi la d))),true⟩ ?_ fun k hk=>?_⟩
     ·show _=Value.int .i64 (okN _:Int)
      unfold okN;rw [if_pos hok];rfl
     ·refine ⟨g,Nat.le_of_lt h4.lt,?_⟩
      unfold okL;rw [if_pos hok,h4.1]
      exact h4.owns (Nat.le_refl g)
     ·have hk:some g=some k:=hk
      cases hk
      exact ⟨h3,h4.lt⟩
    ·refine (seal_bad _ u w hok hb).mono fun r w' ⟨h1,h2⟩=>⟨_,e++[nilV],h1,Grows.push _ _,⟨[nilV,.int .i64 2],⟨(by show (e++[nilV])[1]? =some _;exact hfin _),?_,trivial⟩,rfl⟩,hM.push h2 _ ⟨.us (.own (okL (pcI ep ct fi la d))),true⟩ ?_ fun k hk=>?_⟩
     ·show _=Value.int .i64 (okN _:Int)
      unfold okN;rw [if_neg hok];rfl
     ·refine ⟨0,Nat.zero_le _,?_⟩
      unfold okL;rw [if_neg hok]
      exact owns_nilV w' 0 _ _
     ·have hk:(none:Option Nat)=some k:=hk
      cases hk
 ·cases h
theorem R_seal:RowOk Try.prog Id' hardD 50 (ctrF Id' C_seal hardD):=ctrF_ok Try.call50 C_seal_ok
end Go.Proofs.Ytonomiljclemnaa
