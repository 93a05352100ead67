/- V0. -/
import Derived.Test.YtiiekgcjilelpaaH2p
open List renaming mem_cons_of_mem → zak, mem_cons_self → zal, map_cons → zay, not_mem_nil → zbc
set_option linter.unusedSimpArgs false
set_option linter.unusedVariables false
namespace Go.Proofs.Ytiiekgcjilelpaa
open Go.RowKit
section
variable {W0:World} {G:Nat→Prop} {w w':World} {e e':Env} {mem:Mem Td}
def rowsL:List (TypeId×TypeId×List Bool):=[(60,129,[true,false,false,false]),(206,213,[false,false,false]),(81,214,[false,false,false]),(85,224,[false,false,false,false]),(226,29,[false,false])]
def aggsL:List (TypeId×Nat):=[(129,4),(29,2),(213,3),(214,3),(224,4)]
def rowIn (t:TypeId):List (TypeId×TypeId×List Bool)→Option (TypeId×List Bool)
 |[]=>none
 |(u,x,ks)::r=>match eqb u t with|true=>some (x,ks)|false=>rowIn t r
def rowT (t:TypeId):Option (TypeId×List Bool):=rowIn t rowsL
def yuv (t:TypeId):List (TypeId×Nat)→Option Nat
 |[]=>none
 |(u,n)::r=>match eqb u t with|true=>some n|false=>yuv t r
def aggsT (t:TypeId):Option Nat:=yuv t aggsL
theorem yj0 {t x:Nat} {ks:List Bool}:∀ {l:List (TypeId×TypeId×List Bool)},rowIn t l=some (x,ks)→(t,x,ks)∈l
 |[],h=>by cases h
 |(u,y,k)::r,h=>by
  simp only [rowIn] at h
  split at h
  ·rename_i he
   obtain rfl:=eqb_eq.1 he
   cases h
   exact zal ..
  ·exact zak _ (yj0 h)
theorem ymo {t n:Nat}:∀ {l:List (TypeId×Nat)},yuv t l=some n→(t,n)∈l
 |[],h=>by cases h
 |(u,y)::r,h=>by
  simp only [yuv] at h
  split at h
  ·rename_i he
   obtain rfl:=eqb_eq.1 he
   cases h
   exact zal ..
  ·exact zak _ (ymo h)
theorem aggsT_sem {t n:Nat} (h:aggsT t=some n):yan Try.prog (isAgg t)=some true∧yan Try.prog (sizeOf t)=some n:=by
 have:=ymo h
 simp only [aggsL,List.mem_cons,Prod.mk.injEq,zbc,or_false] at this
 rcases this with ⟨rfl,rfl⟩|⟨rfl,rfl⟩|⟨rfl,rfl⟩|⟨rfl,rfl⟩|⟨rfl,rfl⟩<;>exact ⟨by kernel_rfl,by kernel_rfl⟩
theorem yne {t x:Nat} {ks:List Bool} (h:rowT t=some (x,ks)):0<ks.length∧ks.length≤8∧yan Try.prog (yrn t)=some ks.length∧∃ bytes,bytes≤64∧ElemT Try.prog t x ks.length bytes:=by
 have:=yj0 h
 simp only [rowsL,List.mem_cons,Prod.mk.injEq,zbc,or_false] at this
 rcases this with ⟨rfl,rfl,rfl⟩|⟨rfl,rfl,rfl⟩|⟨rfl,rfl,rfl⟩|⟨rfl,rfl,rfl⟩|⟨rfl,rfl,rfl⟩
 ·exact ⟨by decide,by decide,by kernel_rfl,40,by decide,ElemT.mk' Try.underlying60 (z:=.agg #[.string ⟨#[]⟩,.int .i64 0,.int .i64 0,.int .i64 0]) (by kernel_rfl) rfl (by decide)⟩
 ·exact ⟨by decide,by decide,by kernel_rfl,24,by decide,ElemT.mk' Try.underlying206 (z:=.agg #[.int .i64 0,.int .i64 0,.int .i64 0]) (by kernel_rfl) rfl (by decide)⟩
 ·exact ⟨by decide,by decide,by kernel_rfl,24,by decide,ElemT.mk' Try.underlying81 (z:=.agg #[.int .i64 0,.int .i64 0,.int .i64 0]) (by kernel_rfl) rfl (by decide)⟩
 ·exact ⟨by decide,by decide,by kernel_rfl,32,by decide,ElemT.mk' Try.underlying85 (z:=.agg #[.int .i64 0,.int .i64 0,.int .i64 0,.int .i64 0]) (by kernel_rfl) rfl (by decide)⟩
 ·exact ⟨by decide,by decide,by kernel_rfl,16,by decide,ElemT.mk' Try.underlying226 (z:=.agg #[.int .i64 0,.int .i64 0]) (by kernel_rfl) rfl (by decide)⟩
def oneT (t:TypeId):Bool:=eqb t 3||eqb t 9
theorem oneT_load {t:Nat} (h:oneT t=true) (x:Value):yfr Try.prog t [PV.v x] 0=some (.one (.v x)):=by
 unfold oneT at h
 rw [Bool.or_eq_true] at h
 rcases h with h|h
 ·obtain rfl:=eqb_eq.1 h;kernel_rfl
 ·obtain rfl:=eqb_eq.1 h;kernel_rfl
def eqBs:List Bool→List Bool→Bool
 |[],[]=>true
 |a::l,b::m=>cond a b (!b)&&eqBs l m
 |_,_=>false
theorem yf7:∀ {l m:List Bool},eqBs l m=true→l=m
 |[],[],_=>rfl
 |[],_::_,h=>by cases h
 |_::_,[],h=>by cases h
 |a::l,b::m,h=>by
  simp only [eqBs,Bool.and_eq_true] at h
  rw [yf7 h.2]
  cases a<;>cases b<;>first|rfl|(simp at h;done)
def yl2 (ks:List Bool) (r:Rw) (t sz off:Nat):Option SV:=match eqb sz ks.length with
 |true=>(match aggsT t with
  |some n=>(match leb (off+n) ks.length with
   |true=>some (.c (.agg ((((rwV ks r).drop off).take n).map PV.v)))
   |false=>none)
  |none=>(match oneT t,(rwV ks r)[off]? with
   |true,some v=>some (svV v)
   |_,_=>none))
 |false=>none
theorem yo0 {ks:List Bool} {r:Rw} {t sz off:Nat} {s:SV} (h:yl2 ks r t sz off=some s) {b o:Nat} (hc:∀ j v,(rwV ks r)[j]? =some v→w.cell? ⟨b,o+j,none⟩=some v):
  ∃ v,(loadVar t ⟨b,o+off,none⟩).run Try.prog w=.ok v w∧s.is e v:=by
 unfold yl2 at h
 split at h
 ·rename_i hs
  split at h
  ·rename_i n hn
   split at h
   ·rename_i hle
    simp only [Option.some.injEq] at h
    subst h
    have hle:=leb_le.1 hle
    obtain ⟨a1,a2⟩:=aggsT_sem hn
    have hk:yfr Try.prog t ((rwV ks r).map PV.v) off=some (.agg ((((rwV ks r).drop off).take n).map PV.v)):=by
     unfold yfr
     rw [a1,a2]
     have:leb (off+n) ((rwV ks r).map PV.v).length=true:=leb_le.2 (by rw [List.length_map,ydb];exact hle)
     simp only [this]
     rw [List.map_take,List.map_drop]
    obtain ⟨u,g1,g2⟩:=ydl (P:=Try.prog) (e:=e) (w:=w) hk (b:=b) (o:=o) (fun j p hj=>by
     rw [List.getElem?_map] at hj
     cases hv:(rwV ks r)[j]? with
     |none=>rw [hv] at hj;cases hj
     |some v=>
      rw [hv] at hj
      cases hj
      exact ⟨v,hc j v hv,rfl⟩)
    exact ⟨u,g1,g2⟩
   ·cases h
  ·split at h
   ·rename_i v ho hv
    simp only [Option.some.injEq] at h
    subst h
    obtain ⟨u,g1,g2⟩:=ydl (P:=Try.prog) (e:=e) (w:=w) (oneT_load ho v) (b:=b) (o:=o+off) (fun j p hj=>by
     match j,hj with
     |0,hj=>simp at hj;subst hj;exact ⟨v,hc off v hv,rfl⟩
     |j+1,hj=>simp at hj)
    exact ⟨u,g1,g2⟩
   ·cases h
 ·cases h
theorem ysg {ks:List Bool}:∀ {R:List Rw} {i:Nat} {r:Rw},R[i]? =some r→∀ j v,(rwV ks r)[j]? =some v→((R.map (rwV ks)).flatten)[i * ks.length+j]? =some v
 |[],_,_,h,_,_,_=>by simp at h
 |x::R,0,r,h,j,v,hv=>by
  simp only [List.getElem?_cons_zero,Option.some.injEq] at h
  subst h
  simp only [zay,List.flatten_cons,Nat.zero_mul,Nat.zero_add]
  rw [List.getElem?_append_left (List.getElem?_eq_some_iff.1 hv).1]
  exact hv
 |x::R,i+1,r,h,j,v,hv=>by
  simp only [List.getElem?_cons_succ] at h
  simp only [zay,List.flatten_cons]
  rw [List.getElem?_append_right (by rw [ydb,Nat.add_mul];omega),ydb,show (i+1) * ks.length+j - ks.length=i * ks.length+j by rw [Nat.add_mul];omega]
  exact ysg h j v hv
end
end Go.Proofs.Ytiiekgcjilelpaa
