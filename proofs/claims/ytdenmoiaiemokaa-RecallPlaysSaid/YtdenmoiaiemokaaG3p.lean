/- G3. -/
import Derived.Test.YtdenmoiaiemokaaG2p
import Derived.Test.YtdenmoiaiemokaaG0p
import Derived.Maps.AppendAt
set_option linter.unusedSimpArgs false
set_option linter.unusedVariables false
namespace Go.Proofs.Ytdenmoiaiemokaa
open Go.RowKit
section
variable {w w':World} {B xb:Nat} {bs:List Bool} {err:Int}
end
def rgetOk (bs:List Bool) (err n:Int):Prop:=err=0∧0≤n∧n≤64∧n≤(bs.length:Int)
instance (bs:List Bool) (err n:Int):Decidable (rgetOk bs err n):=by unfold rgetOk;infer_instance
section
variable {P:Program}
theorem run_app_at {w:World} {t ty e:TypeId} {size bytes base:Nat} (hE:ElemT P t e size bytes) {v:Value} {n:Nat} {xs:List Value} (hown:w.ownsRow base e size v n xs)
  {u:Value} {m:Nat} {news:List Value} (hR:Rs w size u m news) (h1:∀ u∈news,u.oneCell'=true)
  (h63:n+m≤9223372036854775807) (hbytes:(n+m) * bytes≤140737488355328) (hbase:base≤w.heap.size):
  ∃ v' w',(Builtin.append_ #[t,t] ty #[v,u]).run P w=.ok v' w'∧w'.ownsRow base e size v' (n+m) (xs++news)∧w.grownBy w' v.ownBlock∧(v'.ownBlock=v.ownBlock∨v'.ownBlock=some w.heap.size):=by
 obtain ⟨i,z,h2,h3,h4,h5,h6,h7,h8⟩:=hE
 obtain ⟨ao,cap,rfl,r1,r2,r3,r4,r5⟩:=hR.open
 cases ao with
 |none=>
  have hc:=r3 rfl
  subst hc
  have hm:m=0:=by omega
  subst hm
  have hn:news=[]:=List.eq_nil_of_length_eq_zero (by simpa using r4)
  subst hn
  exact ⟨v,w,run_append_owned_none (P:=P) (w:=w) base t ty e i size h2 h3 v n xs hown,by simpa using hown,⟨rfl,rfl,rfl,Nat.le_refl _,fun _ _ _=>rfl⟩,.inl rfl⟩
 |some ad=>
  obtain ⟨v',w',hr,q2,q3,_,q5⟩:=run_append_own_at (P:=P) w base t ty e i z size bytes h2 h3 h4 h5 h6 h7 h8 v n xs hown ad m cap news r4 (r5 ad rfl) h1 (by simpa [maxLen] using h63) hbytes hbase
  exact ⟨v',w',hr,q2,q3,q5⟩
end
end Go.Proofs.Ytdenmoiaiemokaa
