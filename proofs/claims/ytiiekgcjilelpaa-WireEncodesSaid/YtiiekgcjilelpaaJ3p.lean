/- J1 J0 J3. -/
import Derived.Test.YtiiekgcjilelpaaJM9p
import Derived.Test.YtiiekgcjilelpaaJM15p
import Derived.Test.YtiiekgcjilelpaaJM17p
import Derived.Test.YtiiekgcjilelpaaJ2p
open List renaming getElem?_eq_getElem → zaa, getD_eq_getElem?_getD → zaf, getElem?_map → zan, mem_map → zbf
open Nat renaming le_refl → zbm
set_option maxRecDepth 100000
set_option linter.unusedSimpArgs false
set_option linter.unusedVariables false
namespace Go.Proofs.Ytiiekgcjilelpaa
open Go.RowKit
def ym7 (r:Rw):Mm.Ent:=⟨r.ss.getD 0 ⟨#[]⟩,r.is.getD 0 0,r.is.getD 1 0,r.is.getD 2 0⟩
def ents (R:List Rw):List Mm.Ent:=R.map ym7
theorem cell_spot {w:World} {a:Addr} {v:Value} (h:w.cell? a=some v):a.spot=none:=by
 unfold World.cell? at h
 split at h
 ·split at h
  ·cases h
  ·rename_i hs;cases hq:a.spot with
   |none=>rfl
   |some x=>rw [hq] at hs;exact absurd rfl hs
 ·cases h
theorem yn1 {w:World} {u:Value} {R:List Rw} (h:yfi (.vw [true,false,false,false] R) w u):Mm.Es w u (ents R):=by
 obtain ⟨_,hl,ao,cap,rfl,h1,h2,h3,h4⟩:=h
 have hn:(Mm.entKS (ents R)).n=R.length:=by show (R.map ym7).length=_;simp
 refine ⟨ao,cap,by rw [hn],by rw [hn];exact h1,h2,h3,fun a ha=>?_⟩
 subst ha
 have hsp:R.length≠0→a.spot=none:=fun h0=>by
  have hlt:0<((R.map (rwV [true,false,false,false])).flatten).length:=by rw [hl];show 0<R.length * 4;omega
  have h5:=h4 a rfl 0 _ (zaa hlt)
  have h6:=cell_spot h5
  obtain ⟨b,o,sp⟩:=a
  exact h6
 rw [hn]
 refine ⟨hsp,fun i hi j p hp=>?_⟩
 have h0:a.spot=none:=hsp (by omega)
 have hr:R[i]? =some R[i]:=zaa hi
 have he:Mm.entAt (ents R) i=ym7 R[i]:=by
  show (ents R).getD i Mm.Ent.zero=_
  rw [zaf]
  show ((R.map ym7)[i]?).getD _=_
  rw [zan,hr];rfl
 have hlen:∀ r∈R.map (rwV [true,false,false,false]),r.length=4:=fun r hr=>by obtain ⟨x,_,rfl⟩:=zbf.1 hr;exact ydb _ x
 have key:∀ (j:Nat) (v:Value),(rwV [true,false,false,false] R[i])[j]? =some v→w.cell? ⟨a.block,a.off+(i * 4+j),none⟩=some v:=fun j v hv=>by
  have h5:=h4 a rfl _ _ (ygq hlen (by rw [zan,hr];rfl) hv)
  have ea:a.add (i * 4+j)=⟨a.block,a.off+(i * 4+j),none⟩:=by
   obtain ⟨b,o,sp⟩:=a
   simp only at h0
   subst h0
   exact Addr.add_mid ..
  rw [← ea]
  exact h5
 simp only [Mm.entKS] at hp
 rw [he] at hp
 match j,hp with
 |0,hp=>simp at hp;subst hp;exact ⟨_,key 0 _ rfl,rfl⟩
 |1,hp=>simp at hp;subst hp;exact ⟨_,key 1 _ rfl,rfl⟩
 |2,hp=>simp at hp;subst hp;exact ⟨_,key 2 _ rfl,rfl⟩
 |3,hp=>simp at hp;subst hp;exact ⟨_,key 3 _ rfl,rfl⟩
 |j+4,hp=>simp at hp
theorem es_nil (w:World):Mm.Es w (.slice none 0 0) (ents []):=⟨none,0,rfl,zbm _,by decide,fun _=>rfl,fun a ha=>by cases ha⟩
theorem yhw {e:Env} {ty cl ss sq bo kd er f1 f2 d1 d2:Int} {nm ot:ByteArray} {mo pl:Int} {da:ByteArray} {ve:Int} {p:PV} {vs:List Value} (h:AllC e [.agg [.v (.int .i64 ty),.v (.int .i64 cl),.v (.int .u64 ss),.v (.int .u64 sq),.v (.int .u64 bo),.v (.int .i64 kd),.v (.int .i64 er),.v (.int .i64 f1),.v (.int .i64 f2),.v (.int .i64 d1),.v (.int .i64 d2),.v (.string nm),.v (.string ot),.v (.int .i64 mo),.v (.int .i64 pl),.v (.string da),.v (.int .u64 ve),p]] vs):∃ v,vs=[.agg #[.int .i64 ty,.int .i64 cl,.int .u64 ss,.int .u64 sq,.int .u64 bo,.int .i64 kd,.int .i64 er,.int .i64 f1,.int .i64 f2,.int .i64 d1,.int .i64 d2,.string nm,.string ot,.int .i64 mo,.int .i64 pl,.string da,.int .u64 ve,v]]∧p.is e v:=by
 match vs,h with
 |[u],⟨⟨us,h1,h2⟩,_⟩=>
  match us,h1 with
  |[u0,u1,u2,u3,u4,u5,u6,u7,u8,u9,u10,u11,u12,u13,u14,u15,u16,v],h1=>
   simp only [AllIs] at h1
   obtain ⟨g0,g1,g2,g3,g4,g5,g6,g7,g8,g9,g10,g11,g12,g13,g14,g15,g16,hv,_⟩:=h1
   refine ⟨v,?_,hv⟩
   rw [h2]
   have hh:∀ {x y:Value},PV.is e (.v x) y→y=x:=fun h=>h
   rw [hh g0,hh g1,hh g2,hh g3,hh g4,hh g5,hh g6,hh g7,hh g8,hh g9,hh g10,hh g11,hh g12,hh g13,hh g14,hh g15,hh g16]
def C_mck:CtrV Td:=fun us sub=>match us,sub with
 |[.agg [.v (.int .i64 ty),.v (.int .i64 cl),.v (.int .u64 ss),.v (.int .u64 sq),.v (.int .u64 bo),.v (.int .i64 kd),.v (.int .i64 er),.v (.int .i64 f1),.v (.int .i64 f2),.v (.int .i64 d1),.v (.int .i64 d2),.v (.string nm),.v (.string ot),.v (.int .i64 mo),.v (.int .i64 pl),.v (.string da),.v (.int .u64 ve),.obj 0]],[⟨.us (.ext (.vw [true,false,false,false] R)),false⟩]=>some ([],.int .i64 (Mm.checkI (⟨ty,cl,ss,sq,bo,kd,er,f1,f2,d1,d2,nm,ot,mo,pl,da,ve,(ents R)⟩:Mm.Msg)))
 |[.agg [.v (.int .i64 ty),.v (.int .i64 cl),.v (.int .u64 ss),.v (.int .u64 sq),.v (.int .u64 bo),.v (.int .i64 kd),.v (.int .i64 er),.v (.int .i64 f1),.v (.int .i64 f2),.v (.int .i64 d1),.v (.int .i64 d2),.v (.string nm),.v (.string ot),.v (.int .i64 mo),.v (.int .i64 pl),.v (.string da),.v (.int .u64 ve),.v (.slice none 0 0)]],[]=>some ([],.int .i64 (Mm.checkI (⟨ty,cl,ss,sq,bo,kd,er,f1,f2,d1,d2,nm,ot,mo,pl,da,ve,(ents [])⟩:Mm.Msg)))
 |_,_=>none
theorem C_mck_ok:ymu Try.prog Id' 139 C_mck:=by
 intro us sub ps x h hp w e vs hM ha
 unfold C_mck at h
 split at h
 ·rename_i ty cl ss sq bo kd er f1 f2 d1 d2 nm ot mo pl da ve R
  simp only [Option.some.injEq,Prod.mk.injEq] at h
  obtain ⟨rfl,rfl⟩:=h
  obtain ⟨v,hv,hE⟩:=yhw ha
  subst hv
  exact Mm.mcheck_c ty cl ss sq bo kd er f1 f2 d1 d2 nm ot mo pl da ve (ents R) v w (yn1 (hM.holds 0 v _ hE rfl))
 ·rename_i ty cl ss sq bo kd er f1 f2 d1 d2 nm ot mo pl da ve
  simp only [Option.some.injEq,Prod.mk.injEq] at h
  obtain ⟨rfl,rfl⟩:=h
  obtain ⟨v,hv,hE⟩:=yhw ha
  subst hv
  obtain rfl:v=.slice none 0 0:=hE
  exact Mm.mcheck_c ty cl ss sq bo kd er f1 f2 d1 d2 nm ot mo pl da ve (ents []) _ w (es_nil w)
 ·cases h
theorem R_mck:RowOk Try.prog Id' yaj 139 (ctrV C_mck yaj):=yk5 Try.call139 C_mck_ok
def C_mis:CtrV Td:=fun us sub=>match us,sub with
 |[.agg [.v (.int .i64 ty),.v (.int .i64 cl),.v (.int .u64 ss),.v (.int .u64 sq),.v (.int .u64 bo),.v (.int .i64 kd),.v (.int .i64 er),.v (.int .i64 f1),.v (.int .i64 f2),.v (.int .i64 d1),.v (.int .i64 d2),.v (.string nm),.v (.string ot),.v (.int .i64 mo),.v (.int .i64 pl),.v (.string da),.v (.int .u64 ve),.obj 0]],[⟨.us (.ext (.vw [true,false,false,false] R)),false⟩]=>some ([nm.size≤9223372036854775807,ot.size≤9223372036854775807,Mm.Szs (ents R)],.bool (Mm.isR (⟨ty,cl,ss,sq,bo,kd,er,f1,f2,d1,d2,nm,ot,mo,pl,da,ve,(ents R)⟩:Mm.Msg)))
 |[.agg [.v (.int .i64 ty),.v (.int .i64 cl),.v (.int .u64 ss),.v (.int .u64 sq),.v (.int .u64 bo),.v (.int .i64 kd),.v (.int .i64 er),.v (.int .i64 f1),.v (.int .i64 f2),.v (.int .i64 d1),.v (.int .i64 d2),.v (.string nm),.v (.string ot),.v (.int .i64 mo),.v (.int .i64 pl),.v (.string da),.v (.int .u64 ve),.v (.slice none 0 0)]],[]=>some ([nm.size≤9223372036854775807,ot.size≤9223372036854775807,Mm.Szs (ents [])],.bool (Mm.isR (⟨ty,cl,ss,sq,bo,kd,er,f1,f2,d1,d2,nm,ot,mo,pl,da,ve,(ents [])⟩:Mm.Msg)))
 |_,_=>none
theorem C_mis_ok:ymu Try.prog Id' 142 C_mis:=by
 intro us sub ps x h hp w e vs hM ha
 unfold C_mis at h
 split at h
 ·rename_i ty cl ss sq bo kd er f1 f2 d1 d2 nm ot mo pl da ve R
  simp only [Option.some.injEq,Prod.mk.injEq] at h
  obtain ⟨rfl,rfl⟩:=h
  have q0:=hp _ (ma 0 rfl)
  have q1:=hp _ (ma 1 rfl)
  have q2:=hp _ (ma 2 rfl)
  obtain ⟨v,hv,hE⟩:=yhw ha
  subst hv
  exact Mm.isr_c ty cl ss sq bo kd er f1 f2 d1 d2 nm ot mo pl da ve (ents R) v w (yn1 (hM.holds 0 v _ hE rfl)) q0 q1 q2
 ·rename_i ty cl ss sq bo kd er f1 f2 d1 d2 nm ot mo pl da ve
  simp only [Option.some.injEq,Prod.mk.injEq] at h
  obtain ⟨rfl,rfl⟩:=h
  have q0:=hp _ (ma 0 rfl)
  have q1:=hp _ (ma 1 rfl)
  have q2:=hp _ (ma 2 rfl)
  obtain ⟨v,hv,hE⟩:=yhw ha
  subst hv
  obtain rfl:v=.slice none 0 0:=hE
  exact Mm.isr_c ty cl ss sq bo kd er f1 f2 d1 d2 nm ot mo pl da ve (ents []) _ w (es_nil w) q0 q1 q2
 ·cases h
theorem R_mis:RowOk Try.prog Id' yaj 142 (ctrV C_mis yaj):=yk5 Try.call142 C_mis_ok
def ygv (d:Mm.Ent):Rw:=⟨[d.ino,d.gen,d.kind],[d.nm]⟩
def shR (R:List Rw):List Rw:=(Mm.shortL (ents R)).map ygv
theorem ytc {w:World} {u:Value} {l:List Mm.Ent} (h:Mm.Es w u l):yfi (.vw [true,false,false,false] (l.map ygv)) w u:=by
 obtain ⟨ao,cap,rfl,h1,h2,h3,h4⟩:=h
 have hn:(Mm.entKS l).n=(l.map ygv).length:=by show l.length=_;simp
 rw [hn] at h1 h4 ⊢
 have hlen:∀ r∈(l.map ygv).map (rwV [true,false,false,false]),r.length=4:=fun r hr=>by obtain ⟨x,_,rfl⟩:=zbf.1 hr;exact ydb _ x
 have hfl:(((l.map ygv).map (rwV [true,false,false,false])).flatten).length=(l.map ygv).length * 4:=by rw [yt8 hlen,List.length_map]
 refine ⟨by decide,hfl,ao,cap,rfl,h1,h2,h3,fun a ha p v hv=>?_⟩
 obtain ⟨hs,hc⟩:=h4 a ha
 have hp:p<(l.map ygv).length * 4:=by rw [← hfl];exact (List.getElem?_eq_some_iff.1 hv).1
 have hsp:a.spot=none:=hs (by intro e;rw [e] at hp;omega)
 have hi:p / 4<(l.map ygv).length:=by omega
 have hj:p % 4<4:=Nat.mod_lt _ (by decide)
 have hpe:p / 4 * 4+p % 4=p:=by omega
 have hr:(l.map ygv)[p / 4]? =some (l.map ygv)[p / 4]:=zaa hi
 have hil:p / 4<l.length:=by simpa using hi
 have hd:Mm.entAt l (p / 4)=l[p / 4]:=by
  show l.getD _ _=_
  rw [zaf,zaa hil];rfl
 have ha0:a.add p=⟨a.block,a.off+(p / 4 * 4+p % 4),none⟩:=by
  obtain ⟨b,o,sp⟩:=a
  have hsp:sp=none:=hsp
  subst hsp
  rw [hpe]
  exact Addr.add_mid ..
 rw [ha0]
 have hv2:(rwV [true,false,false,false] (ygv l[p / 4]))[p % 4]? =some v:=by
  have h5:=ygq hlen (i:=p / 4) (j:=p % 4) (r:=rwV [true,false,false,false] (l.map ygv)[p / 4]) (v:=(rwV [true,false,false,false] (l.map ygv)[p / 4])[p % 4]'(by rw [ydb];exact hj)) (by rw [zan,hr];rfl) (zaa _)
  rw [hpe,hv] at h5
  have hm:(l.map ygv)[p / 4]=ygv l[p / 4]:=List.getElem_map _
  rw [hm] at h5
  rw [h5]
  exact zaa _
 have hc1:=hc (p / 4) (by rw [← hn];exact hil) (p % 4)
 simp only [Mm.entKS,hd] at hc1
 generalize p % 4=j at hj hv2 hc1 ⊢
 match j,hj with
 |0,_=>obtain ⟨x,g1,g2⟩:=hc1 _ rfl;rw [g1];cases hv2;exact congrArg some g2
 |1,_=>obtain ⟨x,g1,g2⟩:=hc1 _ rfl;rw [g1];cases hv2;exact congrArg some g2
 |2,_=>obtain ⟨x,g1,g2⟩:=hc1 _ rfl;rw [g1];cases hv2;exact congrArg some g2
 |3,_=>obtain ⟨x,g1,g2⟩:=hc1 _ rfl;rw [g1];cases hv2;exact congrArg some g2
def C_msh:Ctr Td:=fun us sub=>match us,sub with
 |[.agg [.v (.int .i64 ty),.v (.int .i64 cl),.v (.int .u64 ss),.v (.int .u64 sq),.v (.int .u64 bo),.v (.int .i64 kd),.v (.int .i64 er),.v (.int .i64 f1),.v (.int .i64 f2),.v (.int .i64 d1),.v (.int .i64 d2),.v (.string nm),.v (.string ot),.v (.int .i64 mo),.v (.int .i64 pl),.v (.string da),.v (.int .u64 ve),.obj 0]],[⟨.us (.ext (.vw [true,false,false,false] R)),false⟩]=>some ([],.c (.agg [.v (.int .i64 ty),.v (.int .i64 cl),.v (.int .u64 ss),.v (.int .u64 sq),.v (.int .u64 bo),.v (.int .i64 kd),.v (.int .i64 er),.v (.int .i64 f1),.v (.int .i64 f2),.v (.int .i64 d1),.v (.int .i64 d2),.v (.string (Mm.shortS nm 20)),.v (.string (Mm.shortS ot 20)),.v (.int .i64 mo),.v (.int .i64 pl),.v (.string (Mm.shortS da 70)),.v (.int .u64 ve),.obj 1]),[⟨.us (.ext (.vw [true,false,false,false] R)),false⟩,⟨.us (.ext (.vw [true,false,false,false] (shR R))),false⟩])
 |_,_=>none
theorem C_msh_ok:CtrOk Try.prog Id' 33 C_msh:=by
 intro us sub ps x sm h hp w e vs hM ha
 unfold C_msh at h
 split at h
 ·rename_i ty cl ss sq bo kd er f1 f2 d1 d2 nm ot mo pl da ve R
  simp only [Option.some.injEq,Prod.mk.injEq] at h
  obtain ⟨rfl,rfl,rfl⟩:=h
  obtain ⟨v,hv,hE⟩:=yhw ha
  subst hv
  refine (Mm.shortM_c ty cl ss sq bo kd er f1 f2 d1 d2 nm ot mo pl da ve (ents R) v w (yn1 (hM.holds 0 v _ hE rfl))).mono fun y w' ⟨v',g1,g2,g3,g4⟩=>⟨_,e++[v'],g1,Grows.push e v',?_,?_⟩
  ·refine ⟨[.int .i64 ty,.int .i64 cl,.int .u64 ss,.int .u64 sq,.int .u64 bo,.int .i64 kd,.int .i64 er,.int .i64 f1,.int .i64 f2,.int .i64 d1,.int .i64 d2,.string (Mm.shortS nm 20),.string (Mm.shortS ot 20),.int .i64 mo,.int .i64 pl,.string (Mm.shortS da 70),.int .u64 ve,v'],⟨rfl,rfl,rfl,rfl,rfl,rfl,rfl,rfl,rfl,rfl,rfl,rfl,rfl,rfl,rfl,rfl,rfl,?_,trivial⟩,rfl⟩
   show (e++[v'])[1]? =some v'
   have:=hM.len
   rw [List.getElem?_append_right (by rw [this];exact zbm _),this];rfl
  ·have hh:yfi (.vw [true,false,false,false] (shR R)) w' v':=ytc g3
   exact hM.push g2 v' ⟨.us (.ext (.vw [true,false,false,false] (shR R))),false⟩ hh fun k hk=>g4 k hk.2
 ·cases h
theorem R_msh:RowOk Try.prog Id' yaj 33 (ctrF Id' C_msh yaj):=ydi Try.call33 C_msh_ok
section
variable {W0:World} {G:Nat→Prop} {sz:Nat} {w:World} {e:Env} {mem:Mem Td}
def regO (id:Nat):Code→List Oper
 |.region i ops _=>match eqb i id with|true=>ops.toList|false=>[]
 |.seq x y=>regO id x++regO id y
 |.cond _ x y=>regO id x++regO id y
 |.block _ c=>regO id c
 |.loop c=>regO id c
 |_=>[]
def drwR (id:Nat):Code→Bool
 |.region i _ d=>match eqb i id with|true=>d|false=>false
 |.seq x y=>drwR id x||drwR id y
 |.cond _ x y=>drwR id x||drwR id y
 |.block _ c=>drwR id c
 |.loop c=>drwR id c
 |_=>false
def mapG (f:Mem Td→Mem Td) (S:Sy Td) (sz:Nat) (l:List Oper) (d:Bool):SSt Td→Option (Tr Td):=fun s=>yaz (s.ver+1) fun v=>some (yh9 S sz l d ⟨s.base,f s.mem,v⟩)
theorem ygo {Sq:Sy Td} (hS:SyOk Sq Id' W0 G) {S:Sy Td} (hP:S.P=Sq.P) {id:Nat} {l:List Oper} {d:Bool} {f:Mem Td→Mem Td} (hf:∀ w e mem,MemOk W0 G Id' w e mem→MemOk W0 G Id' w e (f mem)):ye4 S Id' W0 G sz (.region id l.toArray d) (mapG f Sq sz l d):=by
 intro s t hg
 unfold mapG at hg
 rw [yak] at hg
 simp only [Option.some.injEq] at hg
 subst hg
 refine ⟨Tr.all_mono (fun s' h=>?_) (yhn (S:=Sq) (sz:=sz) (l:=l) (d:=d) (s:=⟨s.base,f s.mem,s.ver+1⟩)),fun K hK Q a w e hfr hM hend=>?_⟩
 ·obtain ⟨⟨pre,h1,h2⟩,h3,_⟩:=h
  refine ⟨⟨pre,h1,fun p hp=>by simpa [yah] using h2 p hp⟩,Nat.le_of_succ_le h3,fun hv=>absurd (hv▸h3) (Nat.not_succ_le_self _)⟩
 ·rw [hP]
  exact yhm hS (s:=⟨s.base,f s.mem,s.ver+1⟩) hK hfr (hf w e s.mem hM) fun s' e' a' w' hg hk hf' hM'=>hend .normal s' e' a' w' hg hk hf' hM'
def yg7 (g:En Td→En Td):Nat→Mem Td→Mem Td
 |_,[]=>[]
 |0,en::r=>g en::r
 |i+1,en::r=>en::yg7 g i r
theorem ypn (g:En Td→En Td):∀ (i:Nat) (m:Mem Td),(yg7 g i m).length=m.length
 |_,[]=>by simp [yg7]
 |0,en::r=>rfl
 |i+1,en::r=>by simp [yg7,ypn g i r]
theorem ypo (g:En Td→En Td):∀ (i:Nat) (m:Mem Td) (j:Nat) (n:En Td),(yg7 g i m)[j]? =some n→∃ n0,m[j]? =some n0∧(n=n0∨n=g n0)
 |_,[],j,n,h=>by simp [yg7] at h
 |0,en::r,0,n,h=>by simp [yg7] at h;exact ⟨en,rfl,.inr h.symm⟩
 |0,en::r,j+1,n,h=>by simp [yg7] at h;exact ⟨n,by simpa using h,.inl rfl⟩
 |i+1,en::r,0,n,h=>by simp [yg7] at h;exact ⟨en,rfl,.inl h.symm⟩
 |i+1,en::r,j+1,n,h=>by
  simp only [yg7,List.getElem?_cons_succ] at h ⊢
  exact ypo g i r j n h
def toBx (en:En Td):En Td:=match en.ob with
 |.blk cs=>⟨.bx cs,en.mu⟩
 |_=>en
theorem bx_ok (i:Nat) (w:World) (e:Env) (mem:Mem Td) (hM:MemOk W0 G Id' w e mem):MemOk W0 G Id' w e (yg7 toBx i mem):=hM.like (ypn _ _ _) fun j n' hn=>by
 obtain ⟨n,h1,h2⟩:=ypo _ _ _ _ _ hn
 refine ⟨n,h1,?_⟩
 rcases h2 with rfl|rfl
 ·exact ⟨rfl,fun u h=>h,fun u k h=>h,fun u k h=>h⟩
 ·unfold toBx
  split
  ·rename_i cs hb
   rw [hb]
   exact ⟨rfl,fun u h=>h,fun u k h=>h,fun u k h=>h⟩
  ·exact ⟨rfl,fun u h=>h,fun u k h=>h,fun u k h=>h⟩
end
def hdW (ty cl ss sq bo kd er:Int):WS:=((((((WS.new.put (IntKind.u64.wrap ty) 2).put (IntKind.u64.wrap cl) 3).put ss 40).put sq 40).put bo 40).put (IntKind.u64.wrap kd) 4).put (IntKind.u64.wrap er) 5
def fiW (s:WS) (a b:Int):WS:=(s.put (IntKind.u64.wrap a) 6).put (IntKind.u64.wrap b) 31
theorem ya1 (x:Int):0≤IntKind.u64.wrap x∧IntKind.u64.wrap x<18446744073709551616:=by
 have h:IntKind.u64.wrap x=x % 18446744073709551616:=rfl
 rw [h];omega
theorem whN_w0 (ty cl ss sq bo kd er f1 f2 d1 d2:Int) (nm ot:ByteArray) (mo pl:Int) (da:ByteArray) (ve:Int) (h0:0≤ss∧ss<18446744073709551616) (h1:0≤sq∧sq<18446744073709551616) (h2:0≤bo∧bo<18446744073709551616):∃ qs,wayO Id' ([⟨.us (.wr .new),true⟩,⟨.bx [.v (.int .i64 ty),.v (.int .i64 cl),.v (.int .u64 ss),.v (.int .u64 sq),.v (.int .u64 bo),.v (.int .i64 kd),.v (.int .i64 er),.v (.int .i64 f1),.v (.int .i64 f2),.v (.int .i64 d1),.v (.int .i64 d2),.v (.string nm),.v (.string ot),.v (.int .i64 mo),.v (.int .i64 pl),.v (.string da),.v (.int .u64 ve),.v (.slice none 0 0)],true⟩]:Mem Td).length [⟨.us (.wr (hdW ty cl ss sq bo kd er)),true⟩,⟨.bx [.v (.int .i64 ty),.v (.int .i64 cl),.v (.int .u64 ss),.v (.int .u64 sq),.v (.int .u64 bo),.v (.int .i64 kd),.v (.int .i64 er),.v (.int .i64 f1),.v (.int .i64 f2),.v (.int .i64 d1),.v (.int .i64 d2),.v (.string nm),.v (.string ot),.v (.int .i64 mo),.v (.int .i64 pl),.v (.string da),.v (.int .u64 ve),.v (.slice none 0 0)],true⟩] (.tup []) ((ybu (⟨Try.prog,[(wInt Try.prog Try.f213),(wNum Try.prog Try.f214)],[],dkHo,Id'.one,60⟩:Sy Td) [] Try.f140 [.agg [.obj 0,.v (.pointer none)],.one (.ptr 1 0)] [⟨.us (.wr .new),true⟩,⟨.bx [.v (.int .i64 ty),.v (.int .i64 cl),.v (.int .u64 ss),.v (.int .u64 sq),.v (.int .u64 bo),.v (.int .i64 kd),.v (.int .i64 er),.v (.int .i64 f1),.v (.int .i64 f2),.v (.int .i64 d1),.v (.int .i64 d2),.v (.string nm),.v (.string ot),.v (.int .i64 mo),.v (.int .i64 pl),.v (.string da),.v (.int .u64 ve),.v (.slice none 0 0)],true⟩]).al [])=some qs∧∀ q∈qs,q:=
 ⟨[(0:Int)≤IntKind.u64.wrap ty∧IntKind.u64.wrap ty<(18446744073709551616:Int),∀ (w:World) (u:Value) (k:Nat),Id'.foot (Th.wr (WS.new.put (IntKind.u64.wrap ty) (↑2:Int))) w u k→Id'.own (Th.wr (WS.new.put (IntKind.u64.wrap ty) (↑2:Int))) w u k,(0:Int)≤IntKind.u64.wrap cl∧IntKind.u64.wrap cl<(18446744073709551616:Int),∀ (w:World) (u:Value) (k:Nat),Id'.foot (Th.wr ((WS.new.put (IntKind.u64.wrap ty) (↑2:Int)).put (IntKind.u64.wrap cl) (↑3:Int))) w u k→Id'.own (Th.wr ((WS.new.put (IntKind.u64.wrap ty) (↑2:Int)).put (IntKind.u64.wrap cl) (↑3:Int))) w u k,(0:Int)≤ss∧ss<(18446744073709551616:Int),∀ (w:World) (u:Value) (k:Nat),Id'.foot (Th.wr (((WS.new.put (IntKind.u64.wrap ty) (↑2:Int)).put (IntKind.u64.wrap cl) (↑3:Int)).put ss (↑40:Int))) w u k→Id'.own (Th.wr (((WS.new.put (IntKind.u64.wrap ty) (↑2:Int)).put (IntKind.u64.wrap cl) (↑3:Int)).put ss (↑40:Int))) w u k,(0:Int)≤sq∧sq<(18446744073709551616:Int),∀ (w:World) (u:Value) (k:Nat),Id'.foot (Th.wr ((((WS.new.put (IntKind.u64.wrap ty) (↑2:Int)).put (IntKind.u64.wrap cl) (↑3:Int)).put ss (↑40:Int)).put sq (↑40:Int))) w u k→Id'.own (Th.wr ((((WS.new.put (IntKind.u64.wrap ty) (↑2:Int)).put (IntKind.u64.wrap cl) (↑3:Int)).put ss (↑40:Int)).put sq (↑40:Int))) w u k,(0:Int)≤bo∧bo<(18446744073709551616:Int),∀ (w:World) (u:Value) (k:Nat),Id'.foot (Th.wr (((((WS.new.put (IntKind.u64.wrap ty) (↑2:Int)).put (IntKind.u64.wrap cl) (↑3:Int)).put ss (↑40:Int)).put sq (↑40:Int)).put bo (↑40:Int))) w u k→Id'.own (Th.wr (((((WS.new.put (IntKind.u64.wrap ty) (↑2:Int)).put (IntKind.u64.wrap cl) (↑3:Int)).put ss (↑40:Int)).put sq (↑40:Int)).put bo (↑40:Int))) w u k,(0:Int)≤IntKind.u64.wrap kd∧IntKind.u64.wrap kd<(18446744073709551616:Int),∀ (w:World) (u:Value) (k:Nat),Id'.foot (Th.wr ((((((WS.new.put (IntKind.u64.wrap ty) (↑2:Int)).put (IntKind.u64.wrap cl) (↑3:Int)).put ss (↑40:Int)).put sq (↑40:Int)).put bo (↑40:Int)).put (IntKind.u64.wrap kd) (↑4:Int))) w u k→Id'.own (Th.wr ((((((WS.new.put (IntKind.u64.wrap ty) (↑2:Int)).put (IntKind.u64.wrap cl) (↑3:Int)).put ss (↑40:Int)).put sq (↑40:Int)).put bo (↑40:Int)).put (IntKind.u64.wrap kd) (↑4:Int))) w u k,(0:Int)≤IntKind.u64.wrap er∧IntKind.u64.wrap er<(18446744073709551616:Int),∀ (w:World) (u:Value) (k:Nat),Id'.foot (Th.wr (((((((WS.new.put (IntKind.u64.wrap ty) (↑2:Int)).put (IntKind.u64.wrap cl) (↑3:Int)).put ss (↑40:Int)).put sq (↑40:Int)).put bo (↑40:Int)).put (IntKind.u64.wrap kd) (↑4:Int)).put (IntKind.u64.wrap er) (↑5:Int))) w u k→Id'.own (Th.wr (((((((WS.new.put (IntKind.u64.wrap ty) (↑2:Int)).put (IntKind.u64.wrap cl) (↑3:Int)).put ss (↑40:Int)).put sq (↑40:Int)).put bo (↑40:Int)).put (IntKind.u64.wrap kd) (↑4:Int)).put (IntKind.u64.wrap er) (↑5:Int))) w u k,(Th.wr (WS.mk (putL ((((((WS.new.put (IntKind.u64.wrap ty) (↑2:Int)).put (IntKind.u64.wrap cl) (↑3:Int)).put ss (↑40:Int)).put sq (↑40:Int)).put bo (↑40:Int)).put (IntKind.u64.wrap kd) (↑4:Int)).bl ((((((WS.new.put (IntKind.u64.wrap ty) (↑2:Int)).put (IntKind.u64.wrap cl) (↑3:Int)).put ss (↑40:Int)).put sq (↑40:Int)).put bo (↑40:Int)).put (IntKind.u64.wrap kd) (↑4:Int)).err (IntKind.u64.wrap er).toNat (↑5:Int)) (putE ((((((WS.new.put (IntKind.u64.wrap ty) (↑2:Int)).put (IntKind.u64.wrap cl) (↑3:Int)).put ss (↑40:Int)).put sq (↑40:Int)).put bo (↑40:Int)).put (IntKind.u64.wrap kd) (↑4:Int)).err (IntKind.u64.wrap er).toNat (↑5:Int)) 448):Td)=Th.wr (WS.mk (putL ((((((WS.new.put (IntKind.u64.wrap ty) (2:Int)).put (IntKind.u64.wrap cl) (3:Int)).put ss (40:Int)).put sq (40:Int)).put bo (40:Int)).put (IntKind.u64.wrap kd) (4:Int)).bl ((((((WS.new.put (IntKind.u64.wrap ty) (2:Int)).put (IntKind.u64.wrap cl) (3:Int)).put ss (40:Int)).put sq (40:Int)).put bo (40:Int)).put (IntKind.u64.wrap kd) (4:Int)).err (IntKind.u64.wrap er).toNat (5:Int)) (putE ((((((WS.new.put (IntKind.u64.wrap ty) (2:Int)).put (IntKind.u64.wrap cl) (3:Int)).put ss (40:Int)).put sq (40:Int)).put bo (40:Int)).put (IntKind.u64.wrap kd) (4:Int)).err (IntKind.u64.wrap er).toNat (5:Int)) 448),Value.int IntKind.i64 ty=Value.int IntKind.i64 ty,Value.int IntKind.i64 cl=Value.int IntKind.i64 cl,Value.int IntKind.u64 ss=Value.int IntKind.u64 ss,Value.int IntKind.u64 sq=Value.int IntKind.u64 sq,Value.int IntKind.u64 bo=Value.int IntKind.u64 bo,Value.int IntKind.i64 kd=Value.int IntKind.i64 kd,Value.int IntKind.i64 er=Value.int IntKind.i64 er,Value.int IntKind.i64 f1=Value.int IntKind.i64 f1,Value.int IntKind.i64 f2=Value.int IntKind.i64 f2,Value.int IntKind.i64 d1=Value.int IntKind.i64 d1,Value.int IntKind.i64 d2=Value.int IntKind.i64 d2,Value.string nm=Value.string nm,Value.string ot=Value.string ot,Value.int IntKind.i64 mo=Value.int IntKind.i64 mo,Value.int IntKind.i64 pl=Value.int IntKind.i64 pl,Value.string da=Value.string da,Value.int IntKind.u64 ve=Value.int IntKind.u64 ve,Value.slice none 0 0=Value.slice none 0 0],by kernel_rfl,(by repeat' first|exact mnil|refine yaa ?_ ?_| rfl|exact h0|exact h1|exact h2|trivial|(exact ya1 _)|(exact fun w u k h=>h))⟩
def C_whN:Ctr Td:=fun us sub=>match us,sub with
 |[.agg [.obj 0,.v (.pointer none)],.one (.ptr 1 0)],[⟨.us (.wr .new),true⟩,⟨.bx [.v (.int .i64 ty),.v (.int .i64 cl),.v (.int .u64 ss),.v (.int .u64 sq),.v (.int .u64 bo),.v (.int .i64 kd),.v (.int .i64 er),.v (.int .i64 f1),.v (.int .i64 f2),.v (.int .i64 d1),.v (.int .i64 d2),.v (.string nm),.v (.string ot),.v (.int .i64 mo),.v (.int .i64 pl),.v (.string da),.v (.int .u64 ve),.v (.slice none 0 0)],true⟩]=>some ([0≤ss∧ss<18446744073709551616,0≤sq∧sq<18446744073709551616,0≤bo∧bo<18446744073709551616],.tup [],[⟨.us (.wr (hdW ty cl ss sq bo kd er)),true⟩,⟨.bx [.v (.int .i64 ty),.v (.int .i64 cl),.v (.int .u64 ss),.v (.int .u64 sq),.v (.int .u64 bo),.v (.int .i64 kd),.v (.int .i64 er),.v (.int .i64 f1),.v (.int .i64 f2),.v (.int .i64 d1),.v (.int .i64 d2),.v (.string nm),.v (.string ot),.v (.int .i64 mo),.v (.int .i64 pl),.v (.string da),.v (.int .u64 ve),.v (.slice none 0 0)],true⟩])
 |_,_=>none
theorem C_whN_ok:CtrOk Try.prog Id' 140 C_whN:=by
 intro us sub ps x sm h hp w e vs hM ha
 unfold C_whN at h
 split at h
 ·rename_i ty cl ss sq bo kd er f1 f2 d1 d2 nm ot mo pl da ve
  simp only [Option.some.injEq,Prod.mk.injEq] at h
  obtain ⟨rfl,rfl,rfl⟩:=h
  have h0:=hp _ (ma 0 rfl)
  have h1:=hp _ (ma 1 rfl)
  have h2:=hp _ (ma 2 rfl)
  exact ya6 (I:=Id') (fun (W0:World) (G:Nat→Prop)=>SyOk.mk2 Try.mixed yal (FnsR.cons (yra) (FnsR.cons (wNum_ok) (FnsR.nil))) EqsOk.nil) rfl Try.func140 (by kernel_rfl) (fun W0 G=>LpsOk.nil _) (cs:=[]) (by kernel_rfl) (whN_w0 ty cl ss sq bo kd er f1 f2 d1 d2 nm ot mo pl da ve h0 h1 h2) w e vs hM ha
 ·cases h
theorem R_whN:RowOk Try.prog Id' yaj 140 (ctrF Id' C_whN yaj):=ydi Try.call140 C_whN_ok
end Go.Proofs.Ytiiekgcjilelpaa
