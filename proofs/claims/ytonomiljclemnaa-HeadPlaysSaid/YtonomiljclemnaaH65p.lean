/- H65. -/
import Derived.Test.YtonomiljclemnaaH60p
import Derived.Test.YtonomiljclemnaaL13p
set_option linter.unusedVariables false
set_option linter.unusedSimpArgs false
namespace Go.Proofs.Ytonomiljclemnaa
open Go.RowKit
def C_unseal:Ctr Td:=fun us sub=>match us,sub with
 |[.one (.obj 0)],[⟨.us (.bal b),true⟩]=>some ([],.tup [.agg [.v (.int .u64 ((secP b).ep:Int)),.v (.int .u64 ((secP b).ct:Int)),.v (.bool (secP b).fi),.v (.bool (secP b).la),.obj 1],.one (.v (.int .i64 (secNL b:Int)))],[⟨.us (.bal b),true⟩,⟨.us (.own (secP b).d),true⟩])
 |_,_=>none
theorem C_unseal_ok:CtrOk Try.prog Id' 54 C_unseal:=by
 intro us sub ps x sm h hp w e vs hM ha
 unfold C_unseal at h
 split at h
 ·rename_i b
  simp only [Option.some.injEq,Prod.mk.injEq] at h
  obtain ⟨rfl,rfl,rfl⟩:=h
  match vs,ha with
  |[u],ha=>
   have hE:e[0]? =some u:=ha.1
   have hb:Bs w u b:=bs_bal (J:=dkI) (hM.holds 0 _ _ hE rfl)
   have hlen:e.length=1:=hM.len
   have hfin:∀ (s:Value),(e++[s])[1]? =some s:=fun s=>by rw [List.getElem?_append_right (by omega),hlen];rfl
   refine (unseal_x u b w hb).mono fun r w' ⟨ao,cap,h1,h2,h3⟩=>⟨_,e++[.slice ao (secP b).d.length cap],h1,Grows.push _ _,⟨[(secP b).agg (.slice ao (secP b).d.length cap),.int .i64 (secNL b:Int)],⟨?_,rfl,trivial⟩,rfl⟩,hM.push h2 _ ⟨.us (.own (secP b).d),true⟩ ⟨w.heap.size,h2.size,h3⟩ fun k hk=>?_⟩
   ·exact ⟨[.int .u64 ((secP b).ep:Int),.int .u64 ((secP b).ct:Int),.bool (secP b).fi,.bool (secP b).la,.slice ao (secP b).d.length cap],⟨rfl,rfl,rfl,rfl,(by show (e++[_])[1]? =some _;exact hfin _),trivial⟩,rfl⟩
   ·have hk:(Value.slice ao (secP b).d.length cap).ownBlock=some k:=hk
    rcases h3.2 with ⟨hn,_⟩|⟨g,cap',cur,hn,k1,k2,_⟩
    ·rw [hn] at hk;cases hk
    ·rw [hn] at hk
     cases hk
     exact ⟨k1,(Array.getElem?_eq_some_iff.1 k2).1⟩
 ·cases h
theorem R_unseal:RowOk Try.prog Id' hardD 54 (ctrF Id' C_unseal hardD):=ctrF_ok Try.call54 C_unseal_ok
end Go.Proofs.Ytonomiljclemnaa
