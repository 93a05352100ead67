/- J0 J3. -/
import Derived.Test.YtiiekgcjilelpaaH9p
import Derived.Test.YtiiekgcjilelpaaJ2p
import Derived.Test.YtiiekgcjilelpaaJ1p
set_option linter.unusedSimpArgs false
set_option linter.unusedVariables false
namespace Go.Proofs.Ytiiekgcjilelpaa
open Go.RowKit
section
variable {W0:World} {G:Nat→Prop} {sz:Nat} {w:World} {e:Env} {mem:Mem Td}
def regO (id:Nat):Code→List Oper
 |.region i ops _=>match eqb i id with|true=>ops.toList|false=>[]
 |.seq x y=>regO id x++regO id y
 |.cond _ x y=>regO id x++regO id y
 |.block _ c=>regO id c
 |.loop c=>regO id c
 |_=>[]
def drwR (id:Nat):Code→Bool
 |.region i _ d=>match eqb i id with|true=>d|false=>false
 |.seq x y=>drwR id x||drwR id y
 |.cond _ x y=>drwR id x||drwR id y
 |.block _ c=>drwR id c
 |.loop c=>drwR id c
 |_=>false
def mapG (f:Mem Td→Mem Td) (S:Sy Td) (sz:Nat) (l:List Oper) (d:Bool):SSt Td→Option (Tr Td):=fun s=>forceN (s.ver+1) fun v=>some (regionB S sz l d ⟨s.base,f s.mem,v⟩)
theorem mapG_sound {Sq:Sy Td} (hS:SyOk Sq Id' W0 G) {S:Sy Td} (hP:S.P=Sq.P) {id:Nat} {l:List Oper} {d:Bool} {f:Mem Td→Mem Td} (hf:∀ w e mem,MemOk W0 G Id' w e mem→MemOk W0 G Id' w e (f mem)):FragSound S Id' W0 G sz (.region id l.toArray d) (mapG f Sq sz l d):=by
 intro s t hg
 unfold mapG at hg
 rw [forceN_eq] at hg
 simp only [Option.some.injEq] at hg
 subst hg
 refine ⟨Tr.all_mono (fun s' h=>?_) (regionB_after (S:=Sq) (sz:=sz) (l:=l) (d:=d) (s:=⟨s.base,f s.mem,s.ver+1⟩)),fun K hK Q a w e hfr hM hend=>?_⟩
 ·obtain ⟨⟨pre,h1,h2⟩,h3,_⟩:=h
  refine ⟨⟨pre,h1,fun p hp=>by simpa [writesC] using h2 p hp⟩,Nat.le_of_succ_le h3,fun hv=>absurd (hv▸h3) (Nat.not_succ_le_self _)⟩
 ·rw [hP]
  exact regionB_sound hS (s:=⟨s.base,f s.mem,s.ver+1⟩) hK hfr (hf w e s.mem hM) fun s' e' a' w' hg hk hf' hM'=>hend .normal s' e' a' w' hg hk hf' hM'
def modAt (g:En Td→En Td):Nat→Mem Td→Mem Td
 |_,[]=>[]
 |0,en::r=>g en::r
 |i+1,en::r=>en::modAt g i r
theorem modAt_len (g:En Td→En Td):∀ (i:Nat) (m:Mem Td),(modAt g i m).length=m.length
 |_,[]=>by simp [modAt]
 |0,en::r=>rfl
 |i+1,en::r=>by simp [modAt,modAt_len g i r]
theorem modAt_get (g:En Td→En Td):∀ (i:Nat) (m:Mem Td) (j:Nat) (n:En Td),(modAt g i m)[j]? =some n→∃ n0,m[j]? =some n0∧(n=n0∨n=g n0)
 |_,[],j,n,h=>by simp [modAt] at h
 |0,en::r,0,n,h=>by simp [modAt] at h;exact ⟨en,rfl,.inr h.symm⟩
 |0,en::r,j+1,n,h=>by simp [modAt] at h;exact ⟨n,by simpa using h,.inl rfl⟩
 |i+1,en::r,0,n,h=>by simp [modAt] at h;exact ⟨en,rfl,.inl h.symm⟩
 |i+1,en::r,j+1,n,h=>by
  simp only [modAt,List.getElem?_cons_succ] at h ⊢
  exact modAt_get g i r j n h
def toBx (en:En Td):En Td:=match en.ob with
 |.blk cs=>⟨.bx cs,en.mu⟩
 |_=>en
theorem bx_ok (i:Nat) (w:World) (e:Env) (mem:Mem Td) (hM:MemOk W0 G Id' w e mem):MemOk W0 G Id' w e (modAt toBx i mem):=hM.like (modAt_len _ _ _) fun j n' hn=>by
 obtain ⟨n,h1,h2⟩:=modAt_get _ _ _ _ _ hn
 refine ⟨n,h1,?_⟩
 rcases h2 with rfl|rfl
 ·exact ⟨rfl,fun u h=>h,fun u k h=>h,fun u k h=>h⟩
 ·unfold toBx
  split
  ·rename_i cs hb
   rw [hb]
   exact ⟨rfl,fun u h=>h,fun u k h=>h,fun u k h=>h⟩
  ·exact ⟨rfl,fun u h=>h,fun u k h=>h,fun u k h=>h⟩
end
def hdW (ty cl ss sq bo kd er:Int):WS:=((((((WS.new.put (IntKind.u64.wrap ty) 2).put (IntKind.u64.wrap cl) 3).put ss 40).put sq 40).put bo 40).put (IntKind.u64.wrap kd) 4).put (IntKind.u64.wrap er) 5
def fiW (s:WS) (a b:Int):WS:=(s.put (IntKind.u64.wrap a) 6).put (IntKind.u64.wrap b) 31
theorem u64_in (x:Int):0≤IntKind.u64.wrap x∧IntKind.u64.wrap x<18446744073709551616:=by
 have h:IntKind.u64.wrap x=x % 18446744073709551616:=rfl
 rw [h];omega
set_option maxRecDepth 100000 in
theorem whN_w0 (ty cl ss sq bo kd er f1 f2 d1 d2:Int) (nm ot:ByteArray) (mo pl:Int) (da:ByteArray) (ve:Int) (h0:0≤ss∧ss<18446744073709551616) (h1:0≤sq∧sq<18446744073709551616) (h2:0≤bo∧bo<18446744073709551616):∃ qs,wayO Id' ([⟨.us (.wr .new),true⟩,⟨.bx [.v (.int .i64 ty),.v (.int .i64 cl),.v (.int .u64 ss),.v (.int .u64 sq),.v (.int .u64 bo),.v (.int .i64 kd),.v (.int .i64 er),.v (.int .i64 f1),.v (.int .i64 f2),.v (.int .i64 d1),.v (.int .i64 d2),.v (.string nm),.v (.string ot),.v (.int .i64 mo),.v (.int .i64 pl),.v (.string da),.v (.int .u64 ve),.v (.slice none 0 0)],true⟩]:Mem Td).length [⟨.us (.wr (hdW ty cl ss sq bo kd er)),true⟩,⟨.bx [.v (.int .i64 ty),.v (.int .i64 cl),.v (.int .u64 ss),.v (.int .u64 sq),.v (.int .u64 bo),.v (.int .i64 kd),.v (.int .i64 er),.v (.int .i64 f1),.v (.int .i64 f2),.v (.int .i64 d1),.v (.int .i64 d2),.v (.string nm),.v (.string ot),.v (.int .i64 mo),.v (.int .i64 pl),.v (.string da),.v (.int .u64 ve),.v (.slice none 0 0)],true⟩] (.tup []) ((runFn (⟨Try.prog,[(wInt Try.prog Try.f213),(wNum Try.prog Try.f214)],[],dkHo,Id'.one,60⟩:Sy Td) [] Try.f140 [.agg [.obj 0,.v (.pointer none)],.one (.ptr 1 0)] [⟨.us (.wr .new),true⟩,⟨.bx [.v (.int .i64 ty),.v (.int .i64 cl),.v (.int .u64 ss),.v (.int .u64 sq),.v (.int .u64 bo),.v (.int .i64 kd),.v (.int .i64 er),.v (.int .i64 f1),.v (.int .i64 f2),.v (.int .i64 d1),.v (.int .i64 d2),.v (.string nm),.v (.string ot),.v (.int .i64 mo),.v (.int .i64 pl),.v (.string da),.v (.int .u64 ve),.v (.slice none 0 0)],true⟩]).al [])=some qs∧∀ q∈qs,q:=
 ⟨[(0:Int)≤IntKind.u64.wrap ty∧IntKind.u64.wrap ty<(18446744073709551616:Int),∀ (w:World) (u:Value) (k:Nat),Id'.foot (Th.wr (WS.new.put (IntKind.u64.wrap ty) (↑2:Int))) w u k→Id'.own (Th.wr (WS.new.put (IntKind.u64.wrap ty) (↑2:Int))) w u k,(0:Int)≤IntKind.u64.wrap cl∧IntKind.u64.wrap cl<(18446744073709551616:Int),∀ (w:World) (u:Value) (k:Nat),Id'.foot (Th.wr ((WS.new.put (IntKind.u64.wrap ty) (↑2:Int)).put (IntKind.u64.wrap cl) (↑3:Int))) w u k→Id'.own (Th.wr ((WS.new.put (IntKind.u64.wrap ty) (↑2:Int)).put (IntKind.u64.wrap cl) (↑3:Int))) w u k,(0:Int)≤ss∧ss<(18446744073709551616:Int),∀ (w:World) (u:Value) (k:Nat),Id'.foot (Th.wr (((WS.new.put (IntKind.u64.wrap ty) (↑2:Int)).put (IntKind.u64.wrap cl) (↑3:Int)).put ss (↑40:Int))) w u k→Id'.own (Th.wr (((WS.new.put (IntKind.u64.wrap ty) (↑2:Int)).put (IntKind.u64.wrap cl) (↑3:Int)).put ss (↑40:Int))) w u k,(0:Int)≤sq∧sq<(18446744073709551616:Int),∀ (w:World) (u:Value) (k:Nat),Id'.foot (Th.wr ((((WS.new.put (IntKind.u64.wrap ty) (↑2:Int)).put (IntKind.u64.wrap cl) (↑3:Int)).put ss (↑40:Int)).put sq (↑40:Int))) w u k→Id'.own (Th.wr ((((WS.new.put (IntKind.u64.wrap ty) (↑2:Int)).put (IntKind.u64.wrap cl) (↑3:Int)).put ss (↑40:Int)).put sq (↑40:Int))) w u k,(0:Int)≤bo∧bo<(18446744073709551616:Int),∀ (w:World) (u:Value) (k:Nat),Id'.foot (Th.wr (((((WS.new.put (IntKind.u64.wrap ty) (↑2:Int)).put (IntKind.u64.wrap cl) (↑3:Int)).put ss (↑40:Int)).put sq (↑40:Int)).put bo (↑40:Int))) w u k→Id'.own (Th.wr (((((WS.new.put (IntKind.u64.wrap ty) (↑2:Int)).put (IntKind.u64.wrap cl) (↑3:Int)).put ss (↑40:Int)).put sq (↑40:Int)).put bo (↑40:Int))) w u k,(0:Int)≤IntKind.u64.wrap kd∧IntKind.u64.wrap kd<(18446744073709551616:Int),∀ (w:World) (u:Value) (k:Nat),Id'.foot (Th.wr ((((((WS.new.put (IntKind.u64.wrap ty) (↑2:Int)).put (IntKind.u64.wrap cl) (↑3:Int)).put ss (↑40:Int)).put sq (↑40:Int)).put bo (↑40:Int)).put (IntKind.u64.wrap kd) (↑4:Int))) w u k→Id'.own (Th.wr ((((((WS.new.put (IntKind.u64.wrap ty) (↑2:Int)).put (IntKind.u64.wrap cl) (↑3:Int)).put ss (↑40:Int)).put sq (↑40:Int)).put bo (↑40:Int)).put (IntKind.u64.wrap kd) (↑4:Int))) w u k,(0:Int)≤IntKind.u64.wrap er∧IntKind.u64.wrap er<(18446744073709551616:Int),∀ (w:World) (u:Value) (k:Nat),Id'.foot (Th.wr (((((((WS.new.put (IntKind.u64.wrap ty) (↑2:Int)).put (IntKind.u64.wrap cl) (↑3:Int)).put ss (↑40:Int)).put sq (↑40:Int)).put bo (↑40:Int)).put (IntKind.u64.wrap kd) (↑4:Int)).put (IntKind.u64.wrap er) (↑5:Int))) w u k→Id'.own (Th.wr (((((((WS.new.put (IntKind.u64.wrap ty) (↑2:Int)).put (IntKind.u64.wrap cl) (↑3:Int)).put ss (↑40:Int)).put sq (↑40:Int)).put bo (↑40:Int)).put (IntKind.u64.wrap kd) (↑4:Int)).put (IntKind.u64.wrap er) (↑5:Int))) w u k,(Th.wr (WS.mk (putL ((((((WS.new.put (IntKind.u64.wrap ty) (↑2:Int)).put (IntKind.u64.wrap cl) (↑3:Int)).put ss (↑40:Int)).put sq (↑40:Int)).put bo (↑40:Int)).put (IntKind.u64.wrap kd) (↑4:Int)).bl ((((((WS.new.put (IntKind.u64.wrap ty) (↑2:Int)).put (IntKind.u64.wrap cl) (↑3:Int)).put ss (↑40:Int)).put sq (↑40:Int)).put bo (↑40:Int)).put (IntKind.u64.wrap kd) (↑4:Int)).err (IntKind.u64.wrap er).toNat (↑5:Int)) (putE ((((((WS.new.put (IntKind.u64.wrap ty) (↑2:Int)).put (IntKind.u64.wrap cl) (↑3:Int)).put ss (↑40:Int)).put sq (↑40:Int)).put bo (↑40:Int)).put (IntKind.u64.wrap kd) (↑4:Int)).err (IntKind.u64.wrap er).toNat (↑5:Int)) 448):Td)=Th.wr (WS.mk (putL ((((((WS.new.put (IntKind.u64.wrap ty) (2:Int)).put (IntKind.u64.wrap cl) (3:Int)).put ss (40:Int)).put sq (40:Int)).put bo (40:Int)).put (IntKind.u64.wrap kd) (4:Int)).bl ((((((WS.new.put (IntKind.u64.wrap ty) (2:Int)).put (IntKind.u64.wrap cl) (3:Int)).put ss (40:Int)).put sq (40:Int)).put bo (40:Int)).put (IntKind.u64.wrap kd) (4:Int)).err (IntKind.u64.wrap er).toNat (5:Int)) (putE ((((((WS.new.put (IntKind.u64.wrap ty) (2:Int)).put (IntKind.u64.wrap cl) (3:Int)).put ss (40:Int)).put sq (40:Int)).put bo (40:Int)).put (IntKind.u64.wrap kd) (4:Int)).err (IntKind.u64.wrap er).toNat (5:Int)) 448),Value.int IntKind.i64 ty=Value.int IntKind.i64 ty,Value.int IntKind.i64 cl=Value.int IntKind.i64 cl,Value.int IntKind.u64 ss=Value.int IntKind.u64 ss,Value.int IntKind.u64 sq=Value.int IntKind.u64 sq,Value.int IntKind.u64 bo=Value.int IntKind.u64 bo,Value.int IntKind.i64 kd=Value.int IntKind.i64 kd,Value.int IntKind.i64 er=Value.int IntKind.i64 er,Value.int IntKind.i64 f1=Value.int IntKind.i64 f1,Value.int IntKind.i64 f2=Value.int IntKind.i64 f2,Value.int IntKind.i64 d1=Value.int IntKind.i64 d1,Value.int IntKind.i64 d2=Value.int IntKind.i64 d2,Value.string nm=Value.string nm,Value.string ot=Value.string ot,Value.int IntKind.i64 mo=Value.int IntKind.i64 mo,Value.int IntKind.i64 pl=Value.int IntKind.i64 pl,Value.string da=Value.string da,Value.int IntKind.u64 ve=Value.int IntKind.u64 ve,Value.slice none 0 0=Value.slice none 0 0],by kernel_rfl,(by refine mcons ?_ (mcons ?_ (mcons ?_ (mcons ?_ (mcons ?_ (mcons ?_ (mcons ?_ (mcons ?_ (mcons ?_ (mcons ?_ (mcons ?_ (mcons ?_ (mcons ?_ (mcons ?_ (mcons ?_ (mcons ?_ (mcons ?_ (mcons ?_ (mcons ?_ (mcons ?_ (mcons ?_ (mcons ?_ (mcons ?_ (mcons ?_ (mcons ?_ (mcons ?_ (mcons ?_ (mcons ?_ (mcons ?_ (mcons ?_ (mcons ?_ (mcons ?_ (mcons ?_ mnil))))))))))))))))))))))))))))))))<;>first|rfl|exact h0|exact h1|exact h2|trivial|(exact u64_in _)|(exact fun w u k h=>h))⟩
def C_whN:Ctr Td:=fun us sub=>match us,sub with
 |[.agg [.obj 0,.v (.pointer none)],.one (.ptr 1 0)],[⟨.us (.wr .new),true⟩,⟨.bx [.v (.int .i64 ty),.v (.int .i64 cl),.v (.int .u64 ss),.v (.int .u64 sq),.v (.int .u64 bo),.v (.int .i64 kd),.v (.int .i64 er),.v (.int .i64 f1),.v (.int .i64 f2),.v (.int .i64 d1),.v (.int .i64 d2),.v (.string nm),.v (.string ot),.v (.int .i64 mo),.v (.int .i64 pl),.v (.string da),.v (.int .u64 ve),.v (.slice none 0 0)],true⟩]=>some ([0≤ss∧ss<18446744073709551616,0≤sq∧sq<18446744073709551616,0≤bo∧bo<18446744073709551616],.tup [],[⟨.us (.wr (hdW ty cl ss sq bo kd er)),true⟩,⟨.bx [.v (.int .i64 ty),.v (.int .i64 cl),.v (.int .u64 ss),.v (.int .u64 sq),.v (.int .u64 bo),.v (.int .i64 kd),.v (.int .i64 er),.v (.int .i64 f1),.v (.int .i64 f2),.v (.int .i64 d1),.v (.int .i64 d2),.v (.string nm),.v (.string ot),.v (.int .i64 mo),.v (.int .i64 pl),.v (.string da),.v (.int .u64 ve),.v (.slice none 0 0)],true⟩])
 |_,_=>none
set_option maxRecDepth 100000 in
theorem C_whN_ok:CtrOk Try.prog Id' 140 C_whN:=by
 intro us sub ps x sm h hp w e vs hM ha
 unfold C_whN at h
 split at h
 ·rename_i ty cl ss sq bo kd er f1 f2 d1 d2 nm ot mo pl da ve
  simp only [Option.some.injEq,Prod.mk.injEq] at h
  obtain ⟨rfl,rfl,rfl⟩:=h
  have h0:=hp _ ((List.mem_cons_self ..))
  have h1:=hp _ (List.mem_cons_of_mem _ ((List.mem_cons_self ..)))
  have h2:=hp _ (List.mem_cons_of_mem _ (List.mem_cons_of_mem _ ((List.mem_cons_self ..))))
  exact ctr_way (I:=Id') (fun (W0:World) (G:Nat→Prop)=>SyOk.mk2 Try.mixed dkHo_ok (FnsR.cons (wInt_ok) (FnsR.cons (wNum_ok) (FnsR.nil))) EqsOk.nil) rfl Try.func140 (by kernel_rfl) (fun W0 G=>LpsOk.nil _) (cs:=[]) (by kernel_rfl) (whN_w0 ty cl ss sq bo kd er f1 f2 d1 d2 nm ot mo pl da ve h0 h1 h2) w e vs hM ha
 ·cases h
theorem R_whN:RowOk Try.prog Id' hardD 140 (ctrF Id' C_whN hardD):=ctrF_ok Try.call140 C_whN_ok
end Go.Proofs.Ytiiekgcjilelpaa
