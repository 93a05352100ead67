/- J1. -/
import Derived.Test.YtiiekgcjilelpaaJM9p
import Derived.Test.YtiiekgcjilelpaaJM17p
import Derived.Test.YtiiekgcjilelpaaH9p
import Derived.Test.YtiiekgcjilelpaaJ2p
set_option linter.unusedSimpArgs false
set_option linter.unusedVariables false
namespace Go.Proofs.Ytiiekgcjilelpaa
open Go.RowKit
def toEnt (r:Rw):Mm.Ent:=⟨r.ss.getD 0 ⟨#[]⟩,r.is.getD 0 0,r.is.getD 1 0,r.is.getD 2 0⟩
def ents (R:List Rw):List Mm.Ent:=R.map toEnt
theorem cell_spot {w:World} {a:Addr} {v:Value} (h:w.cell? a=some v):a.spot=none:=by
 unfold World.cell? at h
 split at h
 ·split at h
  ·cases h
  ·rename_i hs;cases hq:a.spot with
   |none=>rfl
   |some x=>rw [hq] at hs;exact absurd rfl hs
 ·cases h
theorem es_of_vw {w:World} {u:Value} {R:List Rw} (h:dkHolds (.vw [true,false,false,false] R) w u):Mm.Es w u (ents R):=by
 obtain ⟨_,hl,ao,cap,rfl,h1,h2,h3,h4⟩:=h
 have hn:(Mm.entKS (ents R)).n=R.length:=by show (R.map toEnt).length=_;simp
 refine ⟨ao,cap,by rw [hn],by rw [hn];exact h1,h2,h3,fun a ha=>?_⟩
 subst ha
 have hsp:R.length≠0→a.spot=none:=fun h0=>by
  have hlt:0<((R.map (rwV [true,false,false,false])).flatten).length:=by rw [hl];show 0<R.length * 4;omega
  have h5:=h4 a rfl 0 _ (List.getElem?_eq_getElem hlt)
  have h6:=cell_spot h5
  obtain ⟨b,o,sp⟩:=a
  exact h6
 rw [hn]
 refine ⟨hsp,fun i hi j p hp=>?_⟩
 have h0:a.spot=none:=hsp (by omega)
 have hr:R[i]? =some R[i]:=List.getElem?_eq_getElem hi
 have he:Mm.entAt (ents R) i=toEnt R[i]:=by
  show (ents R).getD i Mm.Ent.zero=_
  rw [List.getD_eq_getElem?_getD]
  show ((R.map toEnt)[i]?).getD _=_
  rw [List.getElem?_map,hr];rfl
 have hlen:∀ r∈R.map (rwV [true,false,false,false]),r.length=4:=fun r hr=>by obtain ⟨x,_,rfl⟩:=List.mem_map.1 hr;exact rwV_len _ x
 have key:∀ (j:Nat) (v:Value),(rwV [true,false,false,false] R[i])[j]? =some v→w.cell? ⟨a.block,a.off+(i * 4+j),none⟩=some v:=fun j v hv=>by
  have h5:=h4 a rfl _ _ (flat_get hlen (by rw [List.getElem?_map,hr];rfl) hv)
  have ea:a.add (i * 4+j)=⟨a.block,a.off+(i * 4+j),none⟩:=by
   obtain ⟨b,o,sp⟩:=a
   simp only at h0
   subst h0
   exact Addr.add_mid ..
  rw [← ea]
  exact h5
 simp only [Mm.entKS] at hp
 rw [he] at hp
 match j,hp with
 |0,hp=>simp at hp;subst hp;exact ⟨_,key 0 _ rfl,rfl⟩
 |1,hp=>simp at hp;subst hp;exact ⟨_,key 1 _ rfl,rfl⟩
 |2,hp=>simp at hp;subst hp;exact ⟨_,key 2 _ rfl,rfl⟩
 |3,hp=>simp at hp;subst hp;exact ⟨_,key 3 _ rfl,rfl⟩
 |j+4,hp=>simp at hp
theorem es_nil (w:World):Mm.Es w (.slice none 0 0) (ents []):=⟨none,0,rfl,Nat.le_refl _,by decide,fun _=>rfl,fun a ha=>by cases ha⟩
theorem msg_args {e:Env} {ty cl ss sq bo kd er f1 f2 d1 d2:Int} {nm ot:ByteArray} {mo pl:Int} {da:ByteArray} {ve:Int} {p:PV} {vs:List Value} (h:AllC e [.agg [.v (.int .i64 ty),.v (.int .i64 cl),.v (.int .u64 ss),.v (.int .u64 sq),.v (.int .u64 bo),.v (.int .i64 kd),.v (.int .i64 er),.v (.int .i64 f1),.v (.int .i64 f2),.v (.int .i64 d1),.v (.int .i64 d2),.v (.string nm),.v (.string ot),.v (.int .i64 mo),.v (.int .i64 pl),.v (.string da),.v (.int .u64 ve),p]] vs):∃ v,vs=[.agg #[.int .i64 ty,.int .i64 cl,.int .u64 ss,.int .u64 sq,.int .u64 bo,.int .i64 kd,.int .i64 er,.int .i64 f1,.int .i64 f2,.int .i64 d1,.int .i64 d2,.string nm,.string ot,.int .i64 mo,.int .i64 pl,.string da,.int .u64 ve,v]]∧p.is e v:=by
 match vs,h with
 |[u],⟨⟨us,h1,h2⟩,_⟩=>
  match us,h1 with
  |[u0,u1,u2,u3,u4,u5,u6,u7,u8,u9,u10,u11,u12,u13,u14,u15,u16,v],h1=>
   simp only [AllIs] at h1
   obtain ⟨g0,g1,g2,g3,g4,g5,g6,g7,g8,g9,g10,g11,g12,g13,g14,g15,g16,hv,_⟩:=h1
   refine ⟨v,?_,hv⟩
   rw [h2]
   have hh:∀ {x y:Value},PV.is e (.v x) y→y=x:=fun h=>h
   rw [hh g0,hh g1,hh g2,hh g3,hh g4,hh g5,hh g6,hh g7,hh g8,hh g9,hh g10,hh g11,hh g12,hh g13,hh g14,hh g15,hh g16]
def C_mck:CtrV Td:=fun us sub=>match us,sub with
 |[.agg [.v (.int .i64 ty),.v (.int .i64 cl),.v (.int .u64 ss),.v (.int .u64 sq),.v (.int .u64 bo),.v (.int .i64 kd),.v (.int .i64 er),.v (.int .i64 f1),.v (.int .i64 f2),.v (.int .i64 d1),.v (.int .i64 d2),.v (.string nm),.v (.string ot),.v (.int .i64 mo),.v (.int .i64 pl),.v (.string da),.v (.int .u64 ve),.obj 0]],[⟨.us (.ext (.vw [true,false,false,false] R)),false⟩]=>some ([],.int .i64 (Mm.checkI (⟨ty,cl,ss,sq,bo,kd,er,f1,f2,d1,d2,nm,ot,mo,pl,da,ve,(ents R)⟩:Mm.Msg)))
 |[.agg [.v (.int .i64 ty),.v (.int .i64 cl),.v (.int .u64 ss),.v (.int .u64 sq),.v (.int .u64 bo),.v (.int .i64 kd),.v (.int .i64 er),.v (.int .i64 f1),.v (.int .i64 f2),.v (.int .i64 d1),.v (.int .i64 d2),.v (.string nm),.v (.string ot),.v (.int .i64 mo),.v (.int .i64 pl),.v (.string da),.v (.int .u64 ve),.v (.slice none 0 0)]],[]=>some ([],.int .i64 (Mm.checkI (⟨ty,cl,ss,sq,bo,kd,er,f1,f2,d1,d2,nm,ot,mo,pl,da,ve,(ents [])⟩:Mm.Msg)))
 |_,_=>none
set_option maxRecDepth 100000 in
theorem C_mck_ok:CtrVOk Try.prog Id' 139 C_mck:=by
 intro us sub ps x h hp w e vs hM ha
 unfold C_mck at h
 split at h
 ·rename_i ty cl ss sq bo kd er f1 f2 d1 d2 nm ot mo pl da ve R
  simp only [Option.some.injEq,Prod.mk.injEq] at h
  obtain ⟨rfl,rfl⟩:=h
  obtain ⟨v,hv,hE⟩:=msg_args ha
  subst hv
  exact Mm.mcheck_c ty cl ss sq bo kd er f1 f2 d1 d2 nm ot mo pl da ve (ents R) v w (es_of_vw (hM.holds 0 v _ hE rfl))
 ·rename_i ty cl ss sq bo kd er f1 f2 d1 d2 nm ot mo pl da ve
  simp only [Option.some.injEq,Prod.mk.injEq] at h
  obtain ⟨rfl,rfl⟩:=h
  obtain ⟨v,hv,hE⟩:=msg_args ha
  subst hv
  obtain rfl:v=.slice none 0 0:=hE
  exact Mm.mcheck_c ty cl ss sq bo kd er f1 f2 d1 d2 nm ot mo pl da ve (ents []) _ w (es_nil w)
 ·cases h
theorem R_mck:RowOk Try.prog Id' hardD 139 (ctrV C_mck hardD):=ctrV_ok Try.call139 C_mck_ok
def Mm.Msg.wi (m:Mm.Msg) (l:List Mm.Ent):Mm.Msg:=⟨m.ty,m.cl,m.ss,m.sq,m.bo,m.kd,m.er,m.f1,m.f2,m.d1,m.d2,m.nm,m.ot,m.mo,m.pl,m.da,m.ve,l⟩
def mOf:CV→Option (Mm.Msg×PV)
 |.agg [.v (.int .i64 ty),.v (.int .i64 cl),.v (.int .u64 ss),.v (.int .u64 sq),.v (.int .u64 bo),.v (.int .i64 kd),.v (.int .i64 er),.v (.int .i64 f1),.v (.int .i64 f2),.v (.int .i64 d1),.v (.int .i64 d2),.v (.string nm),.v (.string ot),.v (.int .i64 mo),.v (.int .i64 pl),.v (.string da),.v (.int .u64 ve),p]=>some (⟨ty,cl,ss,sq,bo,kd,er,f1,f2,d1,d2,nm,ot,mo,pl,da,ve,[]⟩,p)
 |_=>none
set_option maxRecDepth 100000 in
theorem mOf_eq {u:CV} {m:Mm.Msg} {p:PV} (h:mOf u=some (m,p)):u=.agg [.v (.int .i64 m.ty),.v (.int .i64 m.cl),.v (.int .u64 m.ss),.v (.int .u64 m.sq),.v (.int .u64 m.bo),.v (.int .i64 m.kd),.v (.int .i64 m.er),.v (.int .i64 m.f1),.v (.int .i64 m.f2),.v (.int .i64 m.d1),.v (.int .i64 m.d2),.v (.string m.nm),.v (.string m.ot),.v (.int .i64 m.mo),.v (.int .i64 m.pl),.v (.string m.da),.v (.int .u64 m.ve),p]:=by
 unfold mOf at h
 split at h
 ·simp only [Option.some.injEq,Prod.mk.injEq] at h
  obtain ⟨rfl,rfl⟩:=h
  rfl
 ·cases h
theorem msg_args2 {e:Env} {ty cl ss sq bo kd er f1 f2 d1 d2:Int} {nm ot:ByteArray} {mo pl:Int} {da:ByteArray} {ve:Int} {ty' cl' ss' sq' bo' kd' er' f1' f2' d1' d2':Int} {nm' ot':ByteArray} {mo' pl':Int} {da':ByteArray} {ve':Int} {p p':PV} {vs:List Value} (h:AllC e [.agg [.v (.int .i64 ty),.v (.int .i64 cl),.v (.int .u64 ss),.v (.int .u64 sq),.v (.int .u64 bo),.v (.int .i64 kd),.v (.int .i64 er),.v (.int .i64 f1),.v (.int .i64 f2),.v (.int .i64 d1),.v (.int .i64 d2),.v (.string nm),.v (.string ot),.v (.int .i64 mo),.v (.int .i64 pl),.v (.string da),.v (.int .u64 ve),p],.agg [.v (.int .i64 ty'),.v (.int .i64 cl'),.v (.int .u64 ss'),.v (.int .u64 sq'),.v (.int .u64 bo'),.v (.int .i64 kd'),.v (.int .i64 er'),.v (.int .i64 f1'),.v (.int .i64 f2'),.v (.int .i64 d1'),.v (.int .i64 d2'),.v (.string nm'),.v (.string ot'),.v (.int .i64 mo'),.v (.int .i64 pl'),.v (.string da'),.v (.int .u64 ve'),p']] vs):∃ v v',vs=[.agg #[.int .i64 ty,.int .i64 cl,.int .u64 ss,.int .u64 sq,.int .u64 bo,.int .i64 kd,.int .i64 er,.int .i64 f1,.int .i64 f2,.int .i64 d1,.int .i64 d2,.string nm,.string ot,.int .i64 mo,.int .i64 pl,.string da,.int .u64 ve,v],.agg #[.int .i64 ty',.int .i64 cl',.int .u64 ss',.int .u64 sq',.int .u64 bo',.int .i64 kd',.int .i64 er',.int .i64 f1',.int .i64 f2',.int .i64 d1',.int .i64 d2',.string nm',.string ot',.int .i64 mo',.int .i64 pl',.string da',.int .u64 ve',v']]∧p.is e v∧p'.is e v':=by
 match vs,h with
 |[u,u'],⟨h1,h2,_⟩=>
  obtain ⟨v,g1,g2⟩:=msg_args (vs:=[u]) ⟨h1,trivial⟩
  obtain ⟨v',g3,g4⟩:=msg_args (vs:=[u']) ⟨h2,trivial⟩
  refine ⟨v,v',?_,g2,g4⟩
  rw [List.cons.injEq] at g1 g3
  rw [g1.1,g3.1]
def C_msm:CtrV Td:=fun us sub=>match us with
 |[x,y]=>(match mOf x,mOf y with
  |some (m,p),some (m',p')=>(match p,p',sub with
   |.obj 0,.obj 1,[⟨.us (.ext (.vw [true,false,false,false] R)),false⟩,⟨.us (.ext (.vw [true,false,false,false] R2)),false⟩]=>some ([],.bool (Mm.sameR (m.wi (ents R)) (m'.wi (ents R2))))
   |.obj 0,.v (.slice none 0 0),[⟨.us (.ext (.vw [true,false,false,false] R)),false⟩]=>some ([],.bool (Mm.sameR (m.wi (ents R)) (m'.wi (ents []))))
   |.v (.slice none 0 0),.obj 0,[⟨.us (.ext (.vw [true,false,false,false] R2)),false⟩]=>some ([],.bool (Mm.sameR (m.wi (ents [])) (m'.wi (ents R2))))
   |.v (.slice none 0 0),.v (.slice none 0 0),[]=>some ([],.bool (Mm.sameR (m.wi (ents [])) (m'.wi (ents []))))
   |_,_,_=>none)
  |_,_=>none)
 |_=>none
set_option maxRecDepth 100000 in
theorem C_msm_ok:CtrVOk Try.prog Id' 40 C_msm:=by
 intro us sub ps x h hp w e vs hM ha
 unfold C_msm at h
 split at h
 ·split at h
  ·rename_i a b m p m' p' h1 h2
   obtain rfl:=mOf_eq h1
   obtain rfl:=mOf_eq h2
   clear h1 h2
   split at h
   ·rename_i R R2
    simp only [Option.some.injEq,Prod.mk.injEq] at h
    obtain ⟨rfl,rfl⟩:=h
    obtain ⟨v,v',hv,hE,hE'⟩:=msg_args2 ha
    subst hv
    exact Mm.rsm_c _ _ _ _ _ _ _ _ _ _ _ _ _ _ _ _ _ (ents R) v _ _ _ _ _ _ _ _ _ _ _ _ _ _ _ _ _ (ents R2) v' w (es_of_vw (hM.holds 0 v _ hE rfl)) (es_of_vw (hM.holds 1 v' _ hE' rfl))
   ·rename_i R
    simp only [Option.some.injEq,Prod.mk.injEq] at h
    obtain ⟨rfl,rfl⟩:=h
    obtain ⟨v,v',hv,hE,hE'⟩:=msg_args2 ha
    subst hv
    obtain rfl:v'=.slice none 0 0:=hE'
    exact Mm.rsm_c _ _ _ _ _ _ _ _ _ _ _ _ _ _ _ _ _ (ents R) v _ _ _ _ _ _ _ _ _ _ _ _ _ _ _ _ _ (ents []) _ w (es_of_vw (hM.holds 0 v _ hE rfl)) (es_nil w)
   ·rename_i R2
    simp only [Option.some.injEq,Prod.mk.injEq] at h
    obtain ⟨rfl,rfl⟩:=h
    obtain ⟨v,v',hv,hE,hE'⟩:=msg_args2 ha
    subst hv
    obtain rfl:v=.slice none 0 0:=hE
    exact Mm.rsm_c _ _ _ _ _ _ _ _ _ _ _ _ _ _ _ _ _ (ents []) _ _ _ _ _ _ _ _ _ _ _ _ _ _ _ _ _ _ (ents R2) v' w (es_nil w) (es_of_vw (hM.holds 0 v' _ hE' rfl))
   ·simp only [Option.some.injEq,Prod.mk.injEq] at h
    obtain ⟨rfl,rfl⟩:=h
    obtain ⟨v,v',hv,hE,hE'⟩:=msg_args2 ha
    subst hv
    obtain rfl:v=.slice none 0 0:=hE
    obtain rfl:v'=.slice none 0 0:=hE'
    exact Mm.rsm_c _ _ _ _ _ _ _ _ _ _ _ _ _ _ _ _ _ (ents []) _ _ _ _ _ _ _ _ _ _ _ _ _ _ _ _ _ _ (ents []) _ w (es_nil w) (es_nil w)
   ·cases h
  ·cases h
 ·cases h
theorem R_msm:RowOk Try.prog Id' hardD 40 (ctrV C_msm hardD):=ctrV_ok Try.call40 C_msm_ok
end Go.Proofs.Ytiiekgcjilelpaa
