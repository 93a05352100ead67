/- V1. -/
import Derived.Test.YtiiekgcjilelpaaH7p
import Derived.Test.YtiiekgcjilelpaaHWp
open List renaming length_append → zae, map_cons → zay
open Nat renaming le_refl → zbm
set_option linter.unusedSimpArgs false
set_option linter.unusedVariables false
namespace Go.Proofs.Ytiiekgcjilelpaa
open Go.RowKit
section
variable {W0:World} {G:Nat→Prop} {w w':World} {e e':Env} {mem:Mem Td}
theorem ytg {t x:Nat} {ks:List Bool} (h:rowT t=some (x,ks)):Try.prog.underlying t=some (.slice x)∧Try.prog.underlying t=some (.slice (Try.prog.elem t))∧yan Try.prog (sizeOf x)=some ks.length∧yan Try.prog (sizeOf (Try.prog.elem t))=some ks.length∧∃ z,yan Try.prog (zeroValue x)=some z:=by
 have:=yj0 h
 simp only [rowsL,List.mem_cons,Prod.mk.injEq,List.not_mem_nil,or_false] at this
 rcases this with ⟨rfl,rfl,rfl⟩|⟨rfl,rfl,rfl⟩|⟨rfl,rfl,rfl⟩|⟨rfl,rfl,rfl⟩|⟨rfl,rfl,rfl⟩
 ·exact ⟨Try.underlying60,by rw [show Try.prog.elem 60=129 from by kernel_rfl];exact Try.underlying60,by kernel_rfl,by kernel_rfl,.agg #[.string ⟨#[]⟩,.int .i64 0,.int .i64 0,.int .i64 0],by kernel_rfl⟩
 ·exact ⟨Try.underlying206,by rw [show Try.prog.elem 206=213 from by kernel_rfl];exact Try.underlying206,by kernel_rfl,by kernel_rfl,.agg #[.int .i64 0,.int .i64 0,.int .i64 0],by kernel_rfl⟩
 ·exact ⟨Try.underlying81,by rw [show Try.prog.elem 81=214 from by kernel_rfl];exact Try.underlying81,by kernel_rfl,by kernel_rfl,.agg #[.int .i64 0,.int .i64 0,.int .i64 0],by kernel_rfl⟩
 ·exact ⟨Try.underlying85,by rw [show Try.prog.elem 85=224 from by kernel_rfl];exact Try.underlying85,by kernel_rfl,by kernel_rfl,.agg #[.int .i64 0,.int .i64 0,.int .i64 0,.int .i64 0],by kernel_rfl⟩
 ·exact ⟨Try.underlying226,by rw [show Try.prog.elem 226=29 from by kernel_rfl];exact Try.underlying226,by kernel_rfl,by kernel_rfl,.agg #[.int .i64 0,.int .i64 0],by kernel_rfl⟩
def i64Of:Value→Option Int
 |.int .i64 n=>some n
 |_=>none
def strOf:Value→Option ByteArray
 |.string s=>some s
 |_=>none
theorem i64Of_eq {v:Value} {n:Int} (h:i64Of v=some n):v=.int .i64 n:=by
 unfold i64Of at h
 split at h
 ·cases h;rfl
 ·cases h
theorem strOf_eq {v:Value} {s:ByteArray} (h:strOf v=some s):v=.string s:=by
 unfold strOf at h
 split at h
 ·cases h;rfl
 ·cases h
def rwMk:List Bool→List Value→Option (List Int×List ByteArray)
 |[],[]=>some ([],[])
 |false::ks,v::vs=>(match i64Of v,rwMk ks vs with|some n,some (is,ss)=>some (n::is,ss)|_,_=>none)
 |true::ks,v::vs=>(match strOf v,rwMk ks vs with|some s,some (is,ss)=>some (is,s::ss)|_,_=>none)
 |_,_=>none
theorem ym9:∀ {ks:List Bool} {vs:List Value} {is:List Int} {ss:List ByteArray} (a:List Int) (b:List ByteArray),rwMk ks vs=some (is,ss)→rwGo (a++is) (b++ss) ks a.length b.length=vs
 |[],[],_,_,a,b,h=>rfl
 |[],_::_,_,_,_,_,h=>by cases h
 |false::ks,[],_,_,_,_,h=>by cases h
 |true::ks,[],_,_,_,_,h=>by cases h
 |false::ks,v::vs,is,ss,a,b,h=>by
  simp only [rwMk] at h
  split at h
  ·rename_i n is' ss' hv h'
   simp only [Option.some.injEq,Prod.mk.injEq] at h
   obtain ⟨rfl,rfl⟩:=h
   have:=ym9 (a++[n]) b h'
   simp only [List.append_assoc,List.singleton_append,zae,List.length_singleton] at this
   simp only [rwGo]
   rw [this,i64Of_eq hv]
   simp
  ·cases h
 |true::ks,v::vs,is,ss,a,b,h=>by
  simp only [rwMk] at h
  split at h
  ·rename_i s is' ss' hv h'
   simp only [Option.some.injEq,Prod.mk.injEq] at h
   obtain ⟨rfl,rfl⟩:=h
   have:=ym9 a (b++[s]) h'
   simp only [List.append_assoc,List.singleton_append,zae,List.length_singleton] at this
   simp only [rwGo]
   rw [this,strOf_eq hv]
   simp
  ·cases h
def yut:List PV→Option (List Value)
 |[]=>some []
 |p::r=>match valP p,yut r with|some v,some vs=>some (v::vs)|_,_=>none
theorem yqo:∀ {ps:List PV} {vs us:List Value},yut ps=some vs→AllIs e ps us→us=vs
 |[],vs,us,h,ha=>by
  cases h
  match us,ha with
  |[],_=>rfl
 |p::r,vs,us,h,ha=>by
  simp only [yut] at h
  split at h
  ·rename_i v vs' h1 h2
   cases h
   match us,ha with
   |u::us,⟨a0,a1⟩=>rw [yad h1 a0,yqo h2 a1]
  ·cases h
def yph (t:TypeId) (us:List CV) (mem:Mem Td):OpD:=match us,rowT t with
 |[.agg ps],some (x,ks)=>(match yut ps with
  |some vs=>(match rwMk ks vs with
   |some (is,ss)=>some ([],.c (.one (.obj mem.length)),some (mem++[⟨.us (.ext (.flat (.rw x ks [⟨is,ss⟩]))),true⟩]))
   |none=>none)
  |none=>none)
 |_,_=>none
theorem opLitR_ok {t:TypeId} {us:List CV} {ps:List Prop} {r:SV} {mo:Option (Mem Td)} (h:yph t us mem=some (ps,r,mo)) {o:Oper} {ρ:Operand→Value} {x:Operand} (ho:o.op=.buildSlice t 1 #[(0,x)]) (hM:MemOk W0 G Id' w e mem) (ha:AllC e us [ρ x]):
  yai Try.prog (fun v w'=>OutIs Id' W0 G w e r v w' mo) ((execOp ρ o).run Try.prog w):=by
 have hrun:∀ {v:Value} {w':World},(Instr.buildSlice t 1 #[(0,ρ x)]).run Try.prog w=.ok v w'→(execOp ρ o).run Try.prog w=.ok (.value v) w':=fun hr=>by
  unfold execOp
  simp only [ho,List.map_toArray,zay,List.map_nil]
  rw [Sem.run_bind,hr]
  rfl
 have hend:(e++[(.slice (some ⟨w.heap.size,0,none⟩) 1 1:Value)])[mem.length]? =some (.slice (some ⟨w.heap.size,0,none⟩) 1 1):=by
  rw [← hM.len,List.getElem?_append_right (zbm _)];simp
 unfold yph at h
 split at h
 ·rename_i pv x' ks ht
  split at h
  ·rename_i vs hvs
   split at h
   ·rename_i is ss hmk
    simp only [Option.some.injEq,Prod.mk.injEq] at h
    obtain ⟨rfl,rfl,rfl⟩:=h
    obtain ⟨us',hu,hx⟩:=ha.1
    have hus:=yqo hvs hu
    subst hus
    obtain ⟨g1,_,g3,_,z,g5⟩:=ytg ht
    obtain ⟨k0,k8,_⟩:=yne ht
    have hgo:rwV ks ⟨is,ss⟩=us':=ym9 [] [] hmk
    have hlen:us'.length=ks.length:=by rw [← hgo,ydb]
    have hcl:(ρ x).cells=us'.toArray:=by rw [hx];simp [Value.cells]
    have hr:=run_lit1 (V:=ρ x) (z:=z) g1 (size:=ks.length) g3 g5 k0 (by omega) (by rw [hcl];simpa using hlen) w
    rw [hrun hr,hcl]
    have hown:=yds (w:=w) (B:=w.heap.size) (n:=1) (size:=ks.length) (e:=x') (cs:=us'.toArray) (by simpa using hlen) (zbm _) (by decide)
    have hR:(FL.rw x' ks [⟨is,ss⟩]).R=[us']:=by simp only [FL.R,zay,List.map_nil,hgo]
    exact ⟨e++[_],Grows.push e _,hend,hM.push ((Ext.refl w).alloc _) _ ⟨.us (.ext (.flat (.rw x' ks [⟨is,ss⟩]))),true⟩ ⟨fun r hr=>by rw [hR] at hr;simp at hr;rw [hr];exact hlen,w.heap.size,by simp,by rw [hR];simpa [FL.t,FL.sz] using hown⟩ fun k hk=>yar hown hk⟩
   ·cases h
  ·cases h
 ·cases h
def rowsP (mem:Mem Td) (ks:List Bool):PV→Option (List Prop×List Rw)
 |.obj j=>(match mem[j]? with
  |some ⟨.us (.ext (.flat (.rw _ ks' R))),_⟩=>(match eqBs ks ks' with|true=>some ([],R)|false=>none)
  |some ⟨.us (.ext (.vw ks' R)),_⟩=>(match eqBs ks ks' with|true=>some ([],R)|false=>none)
  |_=>none)
 |.sub j sz lo hi=>(match mem[j]?,eqb sz ks.length with
  |some ⟨.us (.ext (.flat (.rw _ ks' R))),_⟩,true=>(match eqBs ks ks' with|true=>some ([],(R.drop lo).take (hi - lo))|false=>none)
  |some ⟨.us (.ext (.vw ks' R)),_⟩,true=>(match eqBs ks ks' with|true=>some ([],(R.drop lo).take (hi - lo))|false=>none)
  |_,_=>none)
 |.v (.slice none 0 0)=>some ([],[])
 |_=>none
theorem ynd {ks:List Bool} {R:List Rw} {u0 u:Value} (hR:Rs w ks.length u0 R.length (R.map (rwV ks)).flatten) {lo hi:Nat} (hu:∃ ao n cap,some u0=some (.slice ao n cap)∧lo≤hi∧hi≤n∧u=.slice (if cap=lo then ao else ao.map (·.add (lo * ks.length))) (hi - lo) (cap - lo)):
  Rs w ks.length u ((R.drop lo).take (hi - lo)).length (((R.drop lo).take (hi - lo)).map (rwV ks)).flatten:=by
 obtain ⟨ao,n,cap,h0,h1,h2,rfl⟩:=hu
 cases h0
 obtain ⟨hl,ao',cap',he,r1,r2,r3,r4⟩:=hR
 have hR':Rs w ks.length (.slice ao n cap) R.length (R.map (rwV ks)).flatten:=⟨hl,ao',cap',he,r1,r2,r3,r4⟩
 cases he
 have hcut:=Rs.cut hR' (k:=lo) (m:=hi) h1 h2 (ao':=if cap=lo then ao else ao.map (·.add (lo * ks.length))) (cap':=cap - lo) (by omega) (by omega) (fun hn=>by
  split at hn
  ·omega
  ·cases ao with
   |none=>have:=r3 rfl;omega
   |some a=>cases hn) (fun a' ha' hlt=>by
  split at ha'
  ·omega
  ·cases ao with
   |none=>cases ha'
   |some a=>simp at ha';exact ⟨a,rfl,ha'.symm⟩)
 have hlen:((R.drop lo).take (hi - lo)).length=hi - lo:=by rw [List.length_take,List.length_drop];omega
 have hfl:∀ (R:List Rw) (a:Nat),(R.map (rwV ks)).flatten.drop (a * ks.length)=((R.drop a).map (rwV ks)).flatten:=by
  intro R
  induction R with
  |nil=>intro a;simp
  |cons x R ih=>
   intro a
   cases a with
   |zero=>simp
   |succ a=>
    simp only [zay,List.flatten_cons,List.drop_succ_cons]
    rw [show (a+1) * ks.length=(rwV ks x).length+a * ks.length by rw [ydb,Nat.add_mul];omega,List.drop_append,List.drop_of_length_le (Nat.le_add_right _ _),List.nil_append,Nat.add_sub_cancel_left,ih a]
 have hft:∀ (R:List Rw) (a:Nat),(R.map (rwV ks)).flatten.take (a * ks.length)=((R.take a).map (rwV ks)).flatten:=by
  intro R
  induction R with
  |nil=>intro a;simp
  |cons x R ih=>
   intro a
   cases a with
   |zero=>simp
   |succ a=>
    simp only [zay,List.flatten_cons,List.take_succ_cons]
    rw [show (a+1) * ks.length=(rwV ks x).length+a * ks.length by rw [ydb,Nat.add_mul];omega,List.take_append,List.take_of_length_le (Nat.le_add_right _ _),Nat.add_sub_cancel_left,ih a]
 rw [hlen]
 rw [hfl,hft] at hcut
 exact hcut
theorem ytf (hM:MemOk W0 G Id' w e mem) {ks:List Bool} {p:PV} {ps:List Prop} {R:List Rw} (h:rowsP mem ks p=some (ps,R)) {u:Value} (hu:p.is e u):Rs w ks.length u R.length (R.map (rwV ks)).flatten:=by
 have flat:∀ {t:TypeId} {R:List Rw} {mu:Bool} {j:Nat} {v:Value},mem[j]? =some ⟨.us (.ext (.flat (.rw t ks R))),mu⟩→e[j]? =some v→Rs w ks.length v R.length (R.map (rwV ks)).flatten:=fun {t R mu j v} hm hv=>by
  obtain ⟨_,B,_,ho⟩:=hM.holds j _ _ hv hm
  have:=Rs.of_owns ho
  rw [FL.len] at this
  exact this
 have view:∀ {R:List Rw} {mu:Bool} {j:Nat} {v:Value},mem[j]? =some ⟨.us (.ext (.vw ks R)),mu⟩→e[j]? =some v→Rs w ks.length v R.length (R.map (rwV ks)).flatten:=fun {R mu j v} hm hv=>(hM.holds j _ _ hv hm).2
 unfold rowsP at h
 split at h
 ·split at h
  ·rename_i hm
   split at h
   ·rename_i hk
    obtain rfl:=yf7 hk
    simp only [Option.some.injEq,Prod.mk.injEq] at h
    obtain ⟨rfl,rfl⟩:=h
    exact flat hm hu
   ·cases h
  ·rename_i hm
   split at h
   ·rename_i hk
    obtain rfl:=yf7 hk
    simp only [Option.some.injEq,Prod.mk.injEq] at h
    obtain ⟨rfl,rfl⟩:=h
    exact view hm hu
   ·cases h
  ·cases h
 ·split at h
  ·rename_i hm hs
   obtain rfl:=eqb_eq.1 hs
   split at h
   ·rename_i hk
    obtain rfl:=yf7 hk
    simp only [Option.some.injEq,Prod.mk.injEq] at h
    obtain ⟨rfl,rfl⟩:=h
    obtain ⟨ao,n,cap,hE,h1,h2,h3⟩:=hu
    exact ynd (flat hm hE) ⟨ao,n,cap,rfl,h1,h2,h3⟩
   ·cases h
  ·rename_i hm hs
   obtain rfl:=eqb_eq.1 hs
   split at h
   ·rename_i hk
    obtain rfl:=yf7 hk
    simp only [Option.some.injEq,Prod.mk.injEq] at h
    obtain ⟨rfl,rfl⟩:=h
    obtain ⟨ao,n,cap,hE,h1,h2,h3⟩:=hu
    exact ynd (view hm hE) ⟨ao,n,cap,rfl,h1,h2,h3⟩
   ·cases h
  ·cases h
 ·simp only [Option.some.injEq,Prod.mk.injEq] at h
  obtain ⟨rfl,rfl⟩:=h
  have:u=.slice none 0 0:=hu
  subst this
  exact Rs.nil w _
 ·cases h
end
end Go.Proofs.Ytiiekgcjilelpaa
