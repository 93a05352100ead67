/- E1. -/
import Derived.Test.YtiiekgcjilelpaaBasep
import Derived.Test.YtiiekgcjilelpaaG0p
open List renaming getElem?_eq_getElem → zaa, getElem?_eq_some_iff → zab, getElem?_append_right → zac, getElem?_append_left → zad, getElem?_take → zai, mem_cons_of_mem → zak, mem_cons_self → zal, getElem?_map → zan, getElem?_set_ne → zao, getElem?_drop → zap, getElem?_set_self → zar, getElem?_eq_none → zas, getElem?_cons_succ → zat, getElem_of_mem → zaz
open Nat renaming lt_of_lt_of_le → zbh, lt_or_ge → zbk, le_trans → zbl, le_refl → zbm, zero_add → zbo
open Array renaming toArray_toList → zbq
open Bool renaming and_eq_true → zbs, or_eq_true → zbt
set_option linter.unusedSimpArgs false
set_option linter.unusedVariables false
namespace Go.Proofs.Ytiiekgcjilelpaa
open Go.RowKit
inductive PV where
 |v (x:Value)
 |kI (k:IntKind) (n:Int)
 |kB (b:Bool)
 |kS (s:ByteArray)
 |ptr (i off:Nat)
 |elt (i sz:Nat) (idx:Int) (off:Nat)
 |obj (i:Nat)
 |sub (i sz lo hi:Nat)
 |win (i sz:Nat) (idx:Int) (off len cap:Nat)
 |any
inductive CV where
 |one (x:PV)
 |agg (cs:List PV)
 |fn (f:FuncId) (caps:List PV)
inductive SV where
 |c (x:CV)
 |tup (xs:List CV)
 |fn (f:FuncId) (first caps:List PV)
 |gd (b:Bool) (x:SV)
structure KS where
 sz:Nat
 n:Nat
 cells:Nat→List PV
inductive Ob (β:Type) where
 |blk (cells:List PV)
 |bx (cells:List PV)
 |sl (k:KS) (b:β)
 |us (b:β)
 |dead
structure En (β:Type) where
 ob:Ob β
 mu:Bool
abbrev Mem (β:Type):=List (En β)
structure SRec where
 ix:Nat
 dst:Option Nat
 ctx:List (Nat×Bool)
 sv:SV
def yan {α:Type} (P:Program):Sem α→Option α
 |.pure a=>some a
 |.program k=>yan P (k P)
 |_=>none
def yaz {α:Type} (n:Nat) (k:Nat→α):α:=match n with
 |0=>k 0
 |m+1=>k (m+1)
theorem yak {α:Type} (n:Nat) (k:Nat→α):yaz n k=k n:=by cases n<;>rfl
def forceI {α:Type} (n:Int) (k:Int→α):α:=match n with
 |.ofNat m=>yaz m fun m=>k (.ofNat m)
 |.negSucc m=>yaz m fun m=>k (.negSucc m)
theorem forceI_eq {α:Type} (n:Int) (k:Int→α):forceI n k=k n:=by cases n<;>simp [forceI,yak]
def forceB {α:Type} (b:Bool) (k:Bool→α):α:=match b with
 |true=>k true
 |false=>k false
theorem forceB_eq {α:Type} (b:Bool) (k:Bool→α):forceB b k=k b:=by cases b<;>rfl
def eqb (a b:Nat):Bool:=Nat.beq a b
def leb (a b:Nat):Bool:=Nat.ble a b
def beqB:Bool→Bool→Bool
 |true,b=>b
 |false,b=>!b
def allB {α:Type} (f:α→Bool):List α→Bool
 |[]=>true
 |x::xs=>f x&&allB f xs
def anyB {α:Type} (f:α→Bool):List α→Bool
 |[]=>false
 |x::xs=>f x||anyB f xs
def mapO {α β:Type} (f:α→Option β):List α→Option (List β)
 |[]=>some []
 |x::xs=>match f x with
  |none=>none
  |some y=>(match mapO f xs with|none=>none|some ys=>some (y::ys))
def yj4 (g:Nat):List SRec→Option SRec
 |[]=>none
 |r::rs=>match eqb r.ix g with|true=>some r|false=>yj4 g rs
def ylt (t:Nat):Option Nat→Bool
 |none=>false
 |some u=>eqb u t
def yas (t:Nat):List SRec→Option SRec
 |[]=>none
 |r::rs=>match ylt t r.dst with|true=>some r|false=>yas t rs
def yab (t:Nat):List (Nat×SV)→Option SV
 |[]=>none
 |(u,x)::rs=>match eqb u t with|true=>some x|false=>yab t rs
def svB:SV→Option Bool
 |.c (.one (.v (.bool b)))=>some b
 |.c (.one (.kB b))=>some b
 |_=>none
def yef (recs:List SRec) (g:Nat):Bool:=
 match yj4 g recs with
 |some r=>(match svB r.sv with|some b=>b|none=>false)
 |none=>false
def sat (recs:List SRec):List (Nat×Bool)→Bool
 |[]=>true
 |(g,true)::c=>yef recs g&&sat recs c
 |(g,false)::c=>!yef recs g&&sat recs c
def inC (g:Nat) (w:Bool):List (Nat×Bool)→Bool
 |[]=>false
 |(h,u)::c=>(eqb h g&&beqB u w)||inC g w c
def subC:List (Nat×Bool)→List (Nat×Bool)→Bool
 |[],_=>true
 |(g,w)::c,d=>inC g w d&&subC c d
def svV (x:Value):SV:=.c (.one (.v x))
def constS:Value→SV
 |.int k n=>.c (.one (.kI k n))
 |.bool b=>.c (.one (.kB b))
 |.string s=>.c (.one (.kS s))
 |x=>svV x
def yax (recs:List SRec) (base:List (Nat×SV)) (c:List (Nat×Bool)):Operand→Option SV
 |.tmp t=>match yas t recs with
  |some r=>(match subC r.ctx c with|true=>some r.sv|false=>none)
  |none=>(match yab t base with|some x=>some x|none=>some (svV undef))
 |.const v=>some (constS v)
 |.global g=>some (svV (.pointer (some ⟨g,0,none⟩)))
 |.func f=>some (.c (.fn f []))
def valP:PV→Option Value
 |.v x=>some x
 |.kI k n=>some (.int k n)
 |.kB b=>some (.bool b)
 |.kS s=>some (.string s)
 |_=>none
def valC:CV→Option Value
 |.one p=>valP p
 |.agg cs=>match mapO valP cs with|some xs=>some (.agg xs.toArray)|none=>none
 |.fn _ _=>none
def valS:Option SV→Option Value
 |some (.c x)=>valC x
 |some (.tup xs)=>(match mapO valC xs with|some us=>some (.tuple us.toArray)|none=>none)
 |_=>none
def cvS:Option SV→Option CV
 |some (.c x)=>some x
 |_=>none
def pvS:Option SV→Option PV
 |some (.c (.one x))=>some x
 |_=>none
def ysx:Option SV→Bool
 |some (.c (.one (.kI _ _)))=>true
 |some (.c (.one (.kB _)))=>true
 |some (.c (.one (.kS _)))=>true
 |some (.c (.one (.v (.pointer none))))=>true
 |_=>false
def ybp:CV→List PV
 |.one x=>[x]
 |.agg cs=>cs
 |.fn _ _=>[.any]
def mkFn (f:FuncId):List PV→List PV→SV
 |[],vs=>.c (.fn f vs)
 |us,vs=>.fn f us vs
def fnS:Option SV→Option (FuncId×List PV×List PV)
 |some (.fn f fi ca)=>some (f,fi,ca)
 |some (.c (.fn f ca))=>some (f,[],ca)
 |_=>none
def oneP {β:Type} (one:β→Bool) (mem:Mem β):PV→Bool
 |.v x=>x.oneCell'
 |.any=>false
 |_=>true
def yfr (P:Program) (ty:TypeId) (cells:List PV) (off:Nat):Option CV:=
 match yan P (isAgg ty) with
 |some true=>(match yan P (sizeOf ty) with
  |some n=>(match leb (off+n) cells.length with
   |true=>some (.agg ((cells.drop off).take n))
   |false=>none)
  |none=>none)
 |some false=>(match cells[off]? with|some p=>some (.one p)|none=>none)
 |none=>none
def yc3 (idx:Int) (n:Nat):Prop:=0≤idx∧idx.toNat<n
def ynv {β:Type} (P:Program) (mem:Mem β) (ty:TypeId):PV→Option CV
 |.ptr i off=>(match mem[i]? with
  |some ⟨.blk cells,_⟩=>yfr P ty cells off
  |some ⟨.bx cells,_⟩=>yfr P ty cells off
  |_=>none)
 |.elt i sz idx off=>(match mem[i]? with
  |some ⟨.sl k _,_⟩=>(match eqb sz k.sz with|true=>yfr P ty (k.cells idx.toNat) off|false=>none)
  |_=>none)
 |_=>none
def yl1 {β:Type} (P:Program) (one:β→Bool) (mem:Mem β) (ty:TypeId) (i off:Nat) (y:CV):Option (Mem β):=
 match mem[i]? with
 |some ⟨.blk cells,true⟩=>(match yan P (sizeOf ty) with
  |none=>none
  |some n=>match eqb (ybp y).length n&&(leb (off+n) cells.length&&allB (oneP one mem) (ybp y)) with
   |true=>some (mem.set i ⟨.blk (cells.take off++(ybp y++cells.drop (off+n))),true⟩)
   |false=>none)
 |some ⟨.bx cells,true⟩=>(match yan P (sizeOf ty) with
  |none=>none
  |some n=>match eqb (ybp y).length n&&(leb (off+n) cells.length&&allB (oneP one mem) (ybp y)) with
   |true=>some (mem.set i ⟨.bx (cells.take off++(ybp y++cells.drop (off+n))),true⟩)
   |false=>none)
 |_=>none
def fOff (s:TypeId) (f:Nat):Sem Nat:=do
 match ←underlying s with
 |.struct fields=>match fields[f]? with
  | some fl => do if (← sizeOf fl.type) = 0 then stuck "" else pure fl.offset
  | none => stuck ""
 | _ => stuck ""
def fTy (s:TypeId) (f:Nat):Sem (TypeId×Nat):=do
 match ←underlying s with
 |.struct fields=>match fields[f]? with
  |some fl=>pure (fl.type,fl.offset)
  | none => stuck ""
 | _ => stuck ""
def yof (t:TypeId):Sem (Array (Nat×Nat)×Option Nat):=do
 match ←underlying t with
 |.struct fields=>do
  let r ←fields.mapM fun f=>do pure (f.offset,←sizeOf f.type)
  pure (r,none)
 |.array _ elem=>do pure (#[],some (← sizeOf elem))
 | _ => stuck ""
def yr0 (x:Array (Nat×Nat)×Option Nat):Nat→Option (Nat×Nat):=match x.2 with
 |none=>(x.1[·]?)
 |some n=>fun i=>some (i * n,n)
def aElem (t:TypeId):Sem (Nat×TypeId×Nat):=do
 match ←underlying t with
 |.array len elem=>do pure (len,elem,←sizeOf elem)
 | _ => stuck ""
def yrn (t:TypeId):Sem Nat:=do
 match ←underlying t with
 |.slice elem=>sizeOf elem
 | _ => stuck ""
def isStr (t:TypeId):Sem Bool:=do
 match ←underlying t with
 |.string=>pure true
 |_=>pure false
def putCs:List PV→Nat→List PV→List PV
 |[],_,cs=>cs
 |x::xs,off,cs=>putCs xs (off+1) (cs.set off x)
def fillS (place:Nat→Option (Nat×Nat)) (cells:List PV):List (Nat×CV)→Option (List PV)
 |[]=>some cells
 |(i,v)::rest=>match place i with
  |none=>none
  |some (off,size)=>match eqb (ybp v).length size&&leb (off+(ybp v).length) cells.length with
   |true=>fillS place (putCs (ybp v) off cells) rest
   |false=>none
abbrev Fn2 (β:Type):=List CV→Mem β→Option (List Prop×SV×Option (Mem β))
abbrev Fns (β:Type):=List (FuncId×Fn2 β)
def yhz {β:Type} (f:Nat):Fns β→Option (Fn2 β)
 |[]=>none
 |(g,x)::rs=>match eqb g f with|true=>some x|false=>yhz f rs
abbrev EqFns:=List (TypeId×(List Value→List Value→Option Bool))
def ygw (f:Nat):EqFns→Option (List Value→List Value→Option Bool)
 |[]=>none
 |(g,x)::rs=>match eqb g f with|true=>some x|false=>ygw f rs
abbrev OpR (β:Type):=Option (SV×Option (Mem β)×List Prop)
def retS {β:Type} (x:SV):OpR β:=some (x,none,[])
def closeV {α:Type} (x:Value) (k:SV→α):α:=match x with
 |.int kk n=>forceI n fun n=>k (.c (.one (.kI kk n)))
 |.bool b=>forceB b fun b=>k (.c (.one (.kB b)))
 |.string s=>k (.c (.one (.kS s)))
 |x=>k (svV x)
def yea {β:Type} (P:Program) (σ:Operand→Option SV) (o:Oper):OpR β:=
 match allB (fun x=>(valS (σ x)).isSome) o.op.operands.toList with
 |true=>(match yan P (execOp (fun x=>(valS (σ x)).getD undef) o) with
  |some (.value v)=>(match allB (fun x=>ysx (σ x)) o.op.operands.toList with
   |true=>closeV v fun s=>retS s
   |false=>retS (svV v))
  |_=>none)
 |false=>none
def isSel:Op→Bool
 |.select _ _=>true
 |_=>false
structure Ho (β:Type) where
 app:TypeId→Fn2 β
 ops:Op→Fn2 β
 hard:β→Bool
 ch:Bool
 ov:List (Nat×Bool)
structure Sy (β:Type) where
 P:Program
 F:Fns β
 E:EqFns
 A:Ho β
 one:β→Bool
 fuel:Nat
def okC {β:Type} (S:Sy β) (mem:Mem β):CV→Bool
 |.one p=>oneP S.one mem p
 |.agg _=>true
 |.fn _ _=>false
def cvO {β:Type} (S:Sy β) (mem:Mem β) (s:Option SV):Option CV:=
 match cvS s with
 |some y=>(match okC S mem y with|true=>some y|false=>none)
 |none=>none
def yt2:Option SV→Option Int
 |some (.c (.one (.v (.int _ n))))=>some n
 |some (.c (.one (.kI _ n)))=>some n
 |_=>none
def idxKn:Option SV→Option Nat
 |some (.c (.one (.kI _ (.ofNat n))))=>some n
 |_=>none
def ycf {β:Type} (S:Sy β) (σ:Operand→Option SV) (mem:Mem β) (c:List (Nat×Bool)) (eff:Bool) (op:Op):OpR β:=
 match mapO (fun x=>cvS (σ x)) op.operands.toList with
 |some us=>(match S.A.ops op us mem with
  |some (ps,r,none)=>some (r,none,ps)
  |some (ps,r,some m')=>(match c,eff with|[],true=>some (r,some m',ps)|_,_=>none)
  |none=>none)
 |none=>none
def ycd:PV→Option Nat
 |.ptr i _=>some i
 |.elt i _ _ _=>some i
 |.obj i=>some i
 |_=>none
def usO {β:Type} (mem:Mem β):Option PV→Bool
 |some p=>(match ycd p with
  |some i=>(match mem[i]? with|some ⟨.us _,_⟩=>true|_=>false)
  |none=>false)
 |none=>false
def yse {β:Type}:OpR β→OpR β
 |some (.c (.one (.ptr i k)),some m,ps)=>some (.c (.one (.ptr i k)),some m,ps)
 |_=>none
def hookSt {β:Type}:OpR β→OpR β
 |some (s,some m,ps)=>some (s,some m,ps)
 |_=>none
def yfm {β:Type} (S:Sy β) (σ:Operand→Option SV) (mem:Mem β) (c:List (Nat×Bool)) (eff:Bool) (o:Oper):OpR β:=
 match (yea S.P σ o:OpR β) with
 |some r=>some r
 |none=>ycf S σ mem c eff o.op
def yiy {β:Type} (S:Sy β) (σ:Operand→Option SV) (mem:Mem β) (c:List (Nat×Bool)) (eff:Bool) (o:Oper) (neg:Bool) (ty:TypeId) (x y:Operand):OpR β:=
 match σ x,σ y with
 |some (.c (.agg u)),some (.c (.agg v))=>(match mapO valP u,mapO valP v,ygw ty S.E with
  |some us,some vs,some g=>(match g us vs with
   |some b=>(match neg with|true=>retS (svV (.bool (!b)))|false=>retS (svV (.bool b)))
   |none=>none)
  |_,_,_=>none)
 |_,_=>yfm S σ mem c eff o
def yla {β:Type} (S:Sy β) (mem:Mem β) (σ:Operand→Option SV) (ty:TypeId) (ps:Array (Nat×Operand)):OpR β:=match yan S.P (yof ty),yan S.P (zeroValue ty),mapO (fun x=>match cvO S mem (σ x.2) with|some y=>some (x.1,y)|none=>none) ps.toList with
 |some pl,some z,some parts=>(match fillS (yr0 pl) (z.cells.toList.map .v) parts with|some cs=>retS (.c (.agg cs))|none=>none)
 |_,_,_=>none
def yjw {β:Type} (hard:β→Bool) (en:En β):Bool:=match en.ob with
 |.blk _=>true
 |.bx _=>!en.mu
 |.sl _ _=>true
 |.us b=>!en.mu||hard b
 |.dead=>false
def maskM {β:Type} (hard:β→Bool) (mem:Mem β):Mem β:=mem.map fun en=>match yjw hard en with|true=>en|false=>⟨.dead,en.mu⟩
def memL (d:Nat):List Nat→Bool
 |[]=>false
 |x::xs=>eqb x d||memL d xs
def yb5 {β:Type} (S:Sy β) (recs:List SRec) (base:List (Nat×SV)) (mem:Mem β) (c:List (Nat×Bool)) (eff:Bool) (o:Oper):OpR β:=
 match o.op with
 |.move x|.assign x=>(match yax recs base c x with|some s=>retS s|none=>none)
 |.pick (.tmp t) a b=>(match yas t recs with
  |none=>none
  |some r=>match subC r.ctx c,r.sv with
   |true,.c (.one (.kB true))=>(match yax recs base ((r.ix,true)::c) a with|some s=>retS s|none=>none)
   |true,.c (.one (.kB false))=>(match yax recs base ((r.ix,false)::c) b with|some s=>retS s|none=>none)
   |true,.c (.one (.v (.bool q)))=>
    (match valS (yax recs base ((r.ix,true)::c) a),valS (yax recs base ((r.ix,false)::c) b) with
    |some (.bool x),some (.bool y)=>(match a,b with
     |.const (.bool true),_=>retS (svV (.bool (q||y)))
     |_,.const (.bool false)=>retS (svV (.bool (q&&x)))
     |_,_=>retS (svV (.bool (cond q x y))))
    |_,_=>none)
   |_,_=>none)
 |.load ty x=>(match usO mem (pvS (yax recs base c x)) with
  |true=>ycf S (yax recs base c) mem c eff o.op
  |false=>(match pvS (yax recs base c x) with
   |some p=>(match ynv S.P mem ty p with|some y=>retS (.c y)|none=>none)
   |_=>none))
 |.store ty x y=>(match usO mem (pvS (yax recs base c x)) with
  |true=>hookSt (ycf S (yax recs base c) mem c eff o.op)
  |false=>(match c,eff,pvS (yax recs base c x),cvS (yax recs base c y) with
   |[],true,some (.ptr i off),some u=>(match yl1 S.P S.one mem ty i off u with|some m'=>some (svV undef,some m',[])|none=>none)
   |_,_,_,_=>none))
 |.box ty x=>(match c,eff,cvO S mem (yax recs base c x) with
  |[],true,some u=>some (.c (.one (.ptr mem.length 0)),some (mem++[⟨.blk (ybp u),true⟩]),[])
  |_,_,_=>none)
 |.alloc ty=>(match (S.A.ops o.op [] []).isSome with
  |true=>yse (ycf S (yax recs base c) mem c eff o.op)
  |false=>(match c,eff,yan S.P (zeroValue ty) with
   |[],true,some z=>some (.c (.one (.ptr mem.length 0)),some (mem++[⟨.blk (z.cells.toList.map .v),true⟩]),[])
   |_,_,_=>none))
 |.fieldAddr s x f=>(match pvS (yax recs base c x),yan S.P (fOff s f) with
  |some (.ptr i off),some d=>yaz (off+d) fun k=>retS (.c (.one (.ptr i k)))
  |some (.elt i sz idx off),some d=>yaz (off+d) fun k=>retS (.c (.one (.elt i sz idx k)))
  |_,_=>none)
 |.nilCheck x=>(match pvS (yax recs base c x) with
  |some (.ptr i off)=>retS (.c (.one (.ptr i off)))
  |some (.elt i sz idx off)=>retS (.c (.one (.elt i sz idx off)))
  |_=>ycf S (yax recs base c) mem c eff o.op)
 |.makeFunc (.func f) fi ca=>(match mapO (fun x=>pvS (yax recs base c x)) fi.toList,mapO (fun x=>pvS (yax recs base c x)) ca.toList with
  |some us,some vs=>retS (mkFn f us vs)
  |_,_=>none)
 |.field ty x f=>(match cvS (yax recs base c x),yan S.P (fTy ty f) with
  |some (.agg cs),some (t,off)=>(match yfr S.P t cs off with|some y=>retS (.c y)|none=>none)
  |_,_=>none)
 |.build ty ps=>(match yla S mem (yax recs base c) ty ps with
  |some r=>some r
  |none=>ycf S (yax recs base c) mem c eff o.op)
 |.extract x i=>(match yax recs base c x with
  |some (.tup xs)=>(match xs[i]? with|some y=>retS (.c y)|none=>none)
  |_=>none)
 |.index ty x ix=>(match yax recs base c x,idxKn (yax recs base c ix),yan S.P (aElem ty) with
  |some (.c (.agg cs)),some k,some (len,elem,sz)=>(match leb (k+1) len with
   |true=>(match yfr S.P elem cs (k * sz) with|some y=>retS (.c y)|none=>none)
   |false=>none)
  |_,_,_=>(match valS (yax recs base c x),yt2 (yax recs base c ix),ysx (yax recs base c x)&&ysx (yax recs base c ix),yan S.P (isStr ty) with
   |some (.string s),some n,false,some true=>some (svV (.int .u8 ((s.data.toList.getD n.toNat 0).toNat:Int)),none,[yc3 n s.size])
   |_,_,_,_=>yea S.P (yax recs base c) o))
 |.indexAddr ty x ix=>(match pvS (yax recs base c x),yt2 (yax recs base c ix) with
  |some (.obj i),some n=>(match mem[i]?,yan S.P (yrn ty) with
   |some ⟨.sl k _,_⟩,some sz=>(match eqb sz k.sz with
    |true=>some (.c (.one (.elt i sz n 0)),none,[yc3 n k.n])
    |false=>none)
   |some ⟨.us _,_⟩,_=>ycf S (yax recs base c) mem c eff o.op
   |_,_=>none)
  |some (.ptr i off),_=>(match idxKn (yax recs base c ix),yan S.P (aElem ty) with
   |some k,some (len,elem,sz)=>(match leb (k+1) len with
    |true=>yaz (off+k * sz) fun q=>retS (.c (.one (.ptr i q)))
    |false=>none)
   |_,_=>none)
  |_,_=>none)
 |.call { callee:=.value fv,args:=xs,argTypes:=ats }=>(match fnS (yax recs base c fv),mapO (fun x=>cvS (yax recs base c x)) xs.toList with
  |some (f,fi,ca),some us=>(match yhz f S.F with
   |some g=>(match g (fi.map .one++(us++ca.map .one)) mem with
    |some (ps,r,none)=>some (r,none,ps)
    |some (ps,r,some m')=>(match c,eff with|[],true=>some (r,some m',ps)|_,_=>none)
    |none=>none)
   |none=>none)
  |_,_=>none)
 |.call { callee:=.builtin .len,args:=xs,argTypes:=ts }=>(match xs.toList,ts.toList with
  |[x],[t]=>(match pvS (yax recs base c x),yan S.P (yrn t) with
   |some (.obj i),some _=>(match mem[i]? with
    |some ⟨.sl k _,_⟩=>retS (svV (.int .i64 (k.n:Int)))
    |some ⟨.us _,_⟩=>ycf S (yax recs base c) mem c eff o.op
    |_=>none)
   |_,_=>yfm S (yax recs base c) mem c eff o)
  |_,_=>none)
 |.call { callee:=.builtin .append,args:=xs,argTypes:=ts }=>(match c,eff,xs.toList,ts.toList with
  |[],true,[x,y],[t,t']=>(match eqb t t',cvS (yax recs base c x),cvS (yax recs base c y) with
   |true,some u,some v=>(match S.A.app t [u,v] mem with
    |some (ps,r,some m')=>some (r,some m',ps)
    |_=>none)
   |false,_,_=>ycf S (yax recs base c) mem c eff o.op
   |_,_,_=>none)
  |_,_,_,_=>none)
 |.binOp .eql ty x y ty'=>yiy S (yax recs base c) mem c eff o false ty x y
 |.binOp .neq ty x y ty'=>yiy S (yax recs base c) mem c eff o true ty x y
 |.buildSlice _ _ _=>ycf S (yax recs base c) mem c eff o.op
 |.makeSlice _ _ _=>ycf S (yax recs base c) mem c eff o.op
 |.select _ _=>none
 |_=>yfm S (yax recs base c) mem c eff o
def ovGet (i:Nat):List (Nat×Bool)→Option Bool
 |[]=>none
 |(j,b)::r=>match eqb j i with|true=>some b|false=>ovGet i r
def ybm {β:Type} (S:Sy β) (i:Nat) (recs:List SRec) (base:List (Nat×SV)) (mem:Mem β) (c:List (Nat×Bool)) (eff:Bool) (o:Oper):OpR β:=
 match ovGet i S.A.ov with
 |none=>yb5 S recs base mem c eff o
 |some b=>(match yb5 S recs base mem c eff o with
  |some (.c (.one (.v (.bool q))),mo,qs)=>some (.c (.one (.kB b)),mo,(q=b)::qs)
  |r=>r)
def yil (recs:List SRec):Option (Nat×Bool)→Option (Option (List (Nat×Bool)))
 |none=>some (some [])
 |some (g,w)=>match yj4 g recs with
  |none=>none
  |some r=>match r.dst with
   |some t=>(match yas t recs with
    |some r'=>(match eqb r'.ix g,r.sv with
     |true,.c (.one (.kB b))=>(match beqB b w with|true=>some (some r.ctx)|false=>some none)
     |true,.c (.one (.v (.bool _)))=>some (some ((g,w)::r.ctx))
     |true,.c (.one (.v (.tuple _)))=>some none
     |_,_=>none)
    |none=>none)
   |none=>none
def yme (b:Bool):List Prop→List Prop
 |[]=>[]
 |p::ps=>(b=true→p)::yme b ps
def askP (recs:List SRec) (c:List (Nat×Bool)) (qs:List Prop):List Prop:=
 match c,qs with
 |_,[]=>[]
 |[],qs=>qs
 |c,qs=>yme (sat recs c) qs
def ybv {β:Type} (S:Sy β) (base:List (Nat×SV)) (pn sz:Nat):List Oper→Nat→List SRec→Mem β→Nat→List Prop→Option (List SRec×Mem β×Nat×List Prop)
 |[],_,recs,mem,ver,ps=>some (recs,mem,ver,ps)
 |o::os,i,recs,mem,ver,ps=>match (match o.dst with|none=>true|some t=>leb (t+1) sz) with
  |false=>none
  |true=>match yil recs o.guard with
   |none=>none
   |some none=>yaz (i+1) fun j=>ybv S base pn sz os j (⟨i,o.dst,[],svV undef⟩::recs) mem ver ps
   |some (some c)=>match ybm S i recs base mem c (leb pn i) o with
    |none=>none
    |some (sv,none,qs)=>yaz (i+1) fun j=>ybv S base pn sz os j (⟨i,o.dst,c,sv⟩::recs) mem ver (askP recs c qs++ps)
    |some (sv,some m',qs)=>yaz (i+1) fun j=>yaz (ver+1) fun ver=>ybv S base pn sz os j (⟨i,o.dst,c,sv⟩::recs) m' ver (askP recs c qs++ps)
def hits (rs:List Nat) (o:Oper):Bool:=anyB (fun e=>Region.binds .any e&&memL e.on rs) o.after.toList
abbrev Rc:=Option (List Nat)×List (List Nat)
def yri (i:Nat) (o:Oper) (rs:List Nat):List Nat:=match hits rs o with|true=>i::rs|false=>rs
def pendF (i:Nat) (o:Oper):List (List Nat)→List (List Nat)
 |[]=>[]
 |rs::r=>yri i o rs::pendF i o r
def yfl (reach:Rc) (i:Nat) (o:Oper):Rc:=((match reach.1 with|none=>none|some rs=>some (yri i o rs)),pendF i o reach.2)
def yrr (reach:Rc) (o:Oper):Bool:=match reach.1 with
 |none=>true
 |some rs=>hits rs o
def ytk (reach:Rc) (o:Oper):Bool:=yrr reach o&&allB (fun rs=>hits rs o) reach.2
def yo5 (reach:Rc) (i:Nat) (o:Oper):Rc:=match yfl reach i o with|(a,b)=>(a,[i]::b)
def chOk (o:Oper):Bool:=match o.op with
 |.call c=>(match c.callee with|.value _=>true|_=>false)
 |.box _ _=>true
 |.alloc _=>true
 |.load _ _=>true
 |_=>false
def yr9:Op→Bool
 |.alloc _=>true
 |.load _ _=>true
 |_=>false
def noHP (p:PV):Bool:=match ycd p with
 |some _=>false
 |none=>true
def noHC:CV→Bool
 |.one p=>noHP p
 |.agg cs=>allB noHP cs
 |.fn _ ca=>allB noHP ca
def noHO:Option CV→Bool
 |some y=>noHC y
 |none=>false
def roP {β:Type} (mem:Mem β) (p:PV):Bool:=match ycd p with
 |some i=>(match mem[i]? with|some en=>!en.mu|none=>false)
 |none=>true
def roC {β:Type} (mem:Mem β):CV→Bool
 |.one p=>roP mem p
 |.agg cs=>allB (roP mem) cs
 |.fn _ ca=>allB noHP ca
def roO {β:Type} (mem:Mem β):Option CV→Bool
 |some y=>roC mem y
 |none=>false
def yrz (recs:List SRec) (base:List (Nat×SV)) (c:List (Nat×Bool)):List Operand→List Nat
 |x::_=>(match pvS (yax recs base c x) with|some p=>(match ycd p with|some i=>[i]|none=>[])|none=>[])
 |[]=>[]
def ywo {β:Type} (W:List Nat) (recs:List SRec) (base:List (Nat×SV)) (c:List (Nat×Bool)) (o:Oper) (mem:Mem β):Bool:=match o.op with
 |.store _ x y=>(match pvS (yax recs base c x) with|some p=>(match ycd p with|some i=>memL i W&&noHO (cvS (yax recs base c y))|none=>false)|none=>false)
 |.buildSlice _ _ ps=>allB (fun x=>roO mem (cvS (yax recs base c x.2))) ps.toList
 |.call { callee:=.builtin .append,args:=xs,argTypes:=ts }=>(match ts.toList,yrz recs base c xs.toList with
  |[t,t'],[i]=>eqb t t'&&memL i W
  |_,_=>false)
 |_=>chOk o
def yns {β:Type} (hard:β→Bool) (W:List Nat):Nat→Mem β→Mem β
 |_,[]=>[]
 |i,en::m=>(match yjw hard en&&!memL i W with|true=>en|false=>⟨.dead,en.mu⟩)::yaz (i+1) fun j=>yns hard W j m
def findW {β:Type} (S:Sy β) (base:List (Nat×SV)):List Oper→Nat→List SRec→Mem β→List Nat
 |[],_,_,_=>[]
 |o::os,i,recs,mem=>match yil recs o.guard with
  |none=>[]
  |some none=>yaz (i+1) fun j=>findW S base os j (⟨i,o.dst,[],svV undef⟩::recs) mem
  |some (some c)=>match ybm S i recs base mem c true o with
   |none=>[]
   |some (sv,none,_)=>yaz (i+1) fun j=>findW S base os j (⟨i,o.dst,c,sv⟩::recs) mem
   |some (sv,some m',_)=>(match o.op with|.store _ x _=>(match pvS (yax recs base c x) with|some p=>(match ycd p with|some i=>[i]|none=>[])|none=>[])|.call { callee:=.builtin .append,args:=xs,argTypes:=_ }=>yrz recs base c xs.toList|_=>([]:List Nat))++(yaz (i+1) fun j=>findW S base os j (⟨i,o.dst,c,sv⟩::recs) m')
def anyV:SV:=.c (.one .any)
def yp5 {β:Type} (S:Sy β) (o:Oper) (c:List (Nat×Bool)):Bool:=match o.op,c with
 |.alloc ty,[]=>(yan S.P (zeroValue ty)).isSome
 |_,_=>false
def flOf {β:Type} (S:Sy β) (l:List Oper) (r:SRec):Option Value:=match l[r.ix]? with
 |some o=>(match o.op with
  |.alloc ty=>(match r.sv,r.ctx with
   |.c (.one .any),[]=>yan S.P (zeroValue ty)
   |_,_=>none)
  |_=>none)
 |none=>none
def stOf (t:Nat):List Oper→Nat→Option (Nat×Nat)
 |[],_=>none
 |o::os,i=>match o.op,o.guard with
  |.store _ (.tmp u) (.tmp y),none=>(match eqb u t with|true=>some (i,y)|false=>yaz (i+1) fun j=>stOf t os j)
  |_,_=>yaz (i+1) fun j=>stOf t os j
def yp4 {β:Type} (S:Sy β) (l:List Oper) (recs:List SRec) (i:Nat) (o:Oper) (c:List (Nat×Bool)):Bool:=match o.op,c with
 |.store ty (.tmp t) (.tmp y),[]=>(match yas t recs,yas y recs,stOf t l 0 with
  |some r,some ry,some (s,_)=>(match eqb s i,flOf S l r,ry.ctx,cvS (some ry.sv),yan S.P (sizeOf ty) with
   |true,some z,[],some u,some n=>eqb (ybp u).length n&&(eqb z.cells.size n&&allB (oneP S.one ([]:Mem β)) (ybp u))
   |_,_,_,_,_=>false)
  |_,_,_=>false)
 |_,_=>false
def flC (all:List SRec) (l:List Oper) (done:Nat→Bool) (r:SRec) (z:Value):List PV:=match r.dst with
 |some t=>(match stOf t l 0 with
  |some (s,y)=>(match done s,yas y all with
   |true,some ry=>(match cvS (some ry.sv) with|some u=>ybp u|none=>[])
   |_,_=>z.cells.toList.map .v)
  |none=>z.cells.toList.map .v)
 |none=>z.cells.toList.map .v
def fixF {β:Type} (S:Sy β) (l:List Oper) (all:List SRec):List SRec→Mem β→List SRec×Mem β
 |[],mem=>([],mem)
 |r::rs,mem=>match fixF S l all rs mem with
  |(rs',m')=>(match flOf S l r with
   |none=>(r::rs',m')
   |some z=>(⟨r.ix,r.dst,[],.c (.one (.ptr m'.length 0))⟩::rs',m'++[⟨.blk (flC all l (fun _=>true) r z),true⟩]))
def chSel {β:Type} (S:Sy β) (W:List Nat) (i:Nat) (recs:List SRec) (base:List (Nat×SV)) (mem:Mem β) (c:List (Nat×Bool)) (o:Oper) (reach:Rc):Option (SV×Option (Mem β)×List Prop):=match ybm S i recs base mem c true o with
 |none=>none
 |some (sv,none,qs)=>(match yrr reach o with|true=>some (sv,none,qs)|false=>none)
 |some (sv,some m',qs)=>(match ywo W recs base c o mem&&ytk reach o with|true=>some (sv,some m',qs)|false=>none)
def ye7 {β:Type} (S:Sy β) (base:List (Nat×SV)) (W:List Nat) (m0:Mem β) (lh:List Oper) (sz:Nat):List Oper→Nat→List SRec→Mem β→Nat→List Prop→Rc→Option (List SRec×Mem β×Nat×List Prop)
 |[],_,recs,mem,ver,ps,_=>some (recs,mem,ver,ps)
 |o::os,i,recs,mem,ver,ps,reach=>match (match o.dst with|none=>true|some t=>leb (t+1) sz) with
  |false=>none
  |true=>match yil recs o.guard with
   |none=>none
   |some none=>yaz (i+1) fun j=>ye7 S base W m0 lh sz os j (⟨i,o.dst,[],svV undef⟩::recs) mem ver ps (yfl reach i o)
   |some (some c)=>(match ybm S i recs base m0 c false o with
    |some (sv,none,qs)=>yaz (i+1) fun j=>ye7 S base W m0 lh sz os j (⟨i,o.dst,c,sv⟩::recs) mem ver (askP recs c qs++ps) (yfl reach i o)
    |_=>(match chSel S W i recs base mem c o reach with
     |none=>(match yp5 S o c with
      |true=>yaz (i+1) fun j=>yaz (ver+1) fun ver=>ye7 S base W m0 lh sz os j (⟨i,o.dst,[],anyV⟩::recs) mem ver ps (yfl reach i o)
      |false=>(match yp4 S lh recs i o c with
       |true=>yaz (i+1) fun j=>ye7 S base W m0 lh sz os j (⟨i,o.dst,[],svV undef⟩::recs) mem ver ps (yfl reach i o)
       |false=>none))
     |some (sv,none,qs)=>yaz (i+1) fun j=>ye7 S base W m0 lh sz os j (⟨i,o.dst,c,sv⟩::recs) mem ver (askP recs c qs++ps) (yo5 reach i o)
     |some (sv,some m',qs)=>yaz (i+1) fun j=>yaz (ver+1) fun ver=>ye7 S base W m0 lh sz os j (⟨i,o.dst,c,sv⟩::recs) m' ver (askP recs c qs++ps) (some [i],[])))
def yt7 (recs:List SRec) (r:SRec):SV:=
 match r.ctx with
 |[]=>r.sv
 |c=>.gd (sat recs c) r.sv
def yik (all:List SRec):List SRec→List (Nat×SV)→List (Nat×SV)
 |[],base=>base
 |r::rs,base=>match r.dst with
  |some t=>(t,yt7 all r)::yik all rs base
  |none=>yik all rs base
def memN (d:Nat):List Nat→Bool
 |[]=>false
 |x::xs=>eqb x d||memN d xs
def wget (d:Nat):List (Nat×Nat)→Option Nat
 |[]=>none
 |(u,j)::ws=>match eqb u d with|true=>some j|false=>wget d ws
def noneB {α:Type}:Option α→Bool
 |none=>true
 |some _=>false
def appN {α:Type}:List Nat→List Nat→(List Nat→α)→α
 |[],ys,k=>k ys
 |x::xs,ys,k=>appN xs ys fun zs=>k (x::zs)
theorem appN_eq {α:Type}:∀ (xs ys:List Nat) (k:List Nat→α),appN xs ys k=k (xs++ys)
 |[],_,_=>rfl
 |x::xs,ys,k=>by simp only [appN];rw [appN_eq xs ys];rfl
def rfGo (A:Array Oper):List Oper→Nat→List (Nat×Nat)→List Nat→Bool
 |[],_,_,_=>true
 |o::os,i,ws,lk=>
  appN (o.looksAt A) [] fun ls=>appN ls lk fun lk'=>yaz (i+1) fun j=>
   (!isSel o.op&&allB (fun e=>!Region.binds .any e||leb (e.on+1) i) o.after.toList)&&
   (allB (fun t=>match wget t ws with|some j=>anyB (fun e=>Region.binds .any e&&eqb e.on j) o.after.toList|none=>true) ls&&
   (match o.dst with
    |some d=>(!memN d lk'&&noneB (wget d ws))&&rfGo A os j ((d,i)::ws) lk'
    |none=>rfGo A os j ws lk'))
def rgF (l:List Oper):Bool:=rfGo l.toArray l 0 [] []
def tailN:List Oper→Nat
 |[]=>0
 |o::os=>match o.op with|.assign _=>tailN os+1|_=>0
def yow:List Oper→Nat
 |[]=>0
 |o::os=>match o.op with|.assign _=>yow os+1|.store _ _ _=>yow os+1|.mapUpdate _ _ _ _=>yow os+1|.call { callee:=.builtin .delete,args:=_,argTypes:=_ }=>yow os+1|_=>0
structure SSt (β:Type) where
 base:List (Nat×SV)
 mem:Mem β
 ver:Nat
inductive SX where
 |normal
 |exit (id:Nat)
 |ret
inductive Tr (β:Type) where
 |leaf (x:SX) (s:SSt β)
 |br (b:Bool) (t e:Tr β)
 |need (ps:List Prop) (t:Tr β)
 |fail
def Tr.bind {β:Type} (f:SSt β→Tr β):Tr β→Tr β
 |.leaf .normal s=>f s
 |.leaf x s=>.leaf x s
 |.br b t e=>.br b (t.bind f) (e.bind f)
 |.need ps t=>.need ps (t.bind f)
 |.fail=>.fail
def Tr.unblock {β:Type} (id:Nat):Tr β→Tr β
 |.leaf (.exit i) s=>(match eqb i id with|true=>.leaf .normal s|false=>.leaf (.exit i) s)
 |.leaf x s=>.leaf x s
 |.br b t e=>.br b (t.unblock id) (e.unblock id)
 |.need ps t=>.need ps (t.unblock id)
 |.fail=>.fail
def ypt {β:Type} (s:SSt β):Option (List SRec×Mem β×Nat×List Prop)→Tr β
 |some (recs,mem,ver,[])=>.leaf .normal ⟨yik recs recs s.base,mem,ver⟩
 |some (recs,mem,ver,ps)=>.need ps (.leaf .normal ⟨yik recs recs s.base,mem,ver⟩)
 |none=>.fail
def hdT {β:Type} (S:Sy β) (sz n:Nat) (W:List Nat) (l:List Oper) (s:SSt β):Tr β:=
 match ye7 S s.base W (yns S.A.hard W 0 s.mem) (l.take n) sz (l.take n) 0 [] s.mem s.ver [] (none,[]) with
 |some (recs,mem,ver,ps)=>(match fixF S (l.take n) recs recs mem with
  |(recs,mem)=>yaz (ver+1) fun ver=>ypt s (ybv S s.base n sz (l.drop n) n recs mem ver ps))
 |none=>.fail
def regT {β:Type} (S:Sy β) (sz n:Nat) (l:List Oper) (s:SSt β):Tr β:=
 match ybv S s.base n sz l 0 [] s.mem s.ver [] with
 |some x=>ypt s (some x)
 |none=>.fail
def ysp {β:Type} (S:Sy β) (sz:Nat) (l:List Oper) (s:SSt β) (n:Nat):Tr β:=
 match rgB l n with
  |true=>(match ybv S s.base n sz l 0 [] s.mem s.ver [] with
   |some x=>ypt s (some x)
   |none=>hdT S sz n (findW S s.base (l.take n) 0 [] s.mem) l s)
  |false=>.fail
def firstSt:List Oper→Nat→Nat
 |[],i=>i
 |o::os,i=>match o.op with|.store _ _ _=>i|.call { callee:=.builtin .copy,args:=_,argTypes:=_ }=>i|_=>yaz (i+1) fun j=>firstSt os j
def ywm {β:Type} (S:Sy β) (sz:Nat) (l:List Oper) (s:SSt β):Tr β:=
 match yaz (l.length - yow l.reverse) (ysp S sz l s) with
 |.fail=>(match yaz (firstSt l 0) (ysp S sz l s) with
  |.fail=>yaz l.length (ysp S sz l s)
  |t=>t)
 |t=>t
def yfa {β:Type} (S:Sy β) (sz:Nat) (l:List Oper) (draw:Bool) (s:SSt β):Tr β:=
 match draw with
 |false=>regT S sz 0 l s
 |true=>match S.A.ch with
  |false=>(match rgF l with
   |true=>regT S sz l.length l s
   |false=>yaz (l.length - tailN l.reverse) fun n=>match rgB l n with
    |true=>regT S sz n l s
    |false=>.fail)
  |true=>(match rgF l with
   |true=>(match ybv S s.base l.length sz l 0 [] s.mem s.ver [] with
    |some x=>ypt s (some x)
    |none=>ywm S sz l s)
   |false=>ywm S sz l s)
def findG {β:Type} (S:Sy β) (base:List (Nat×SV)):List Oper→Nat→List SRec→Mem β→Option (Nat×Bool)
 |[],_,_,_=>none
 |o::os,i,recs,mem=>match yil recs o.guard with
  |none=>none
  |some none=>yaz (i+1) fun j=>findG S base os j (⟨i,o.dst,[],svV undef⟩::recs) mem
  |some (some c)=>match ybm S i recs base mem c true o with
   |none=>(match c with
    |(g,_)::_=>(match yj4 g recs with
     |some r=>(match r.sv with|.c (.one (.v (.bool q)))=>some (g,q)|_=>none)
     |none=>none)
    |[]=>none)
   |some (sv,none,_)=>yaz (i+1) fun j=>findG S base os j (⟨i,o.dst,c,sv⟩::recs) mem
   |some (sv,some m',_)=>yaz (i+1) fun j=>findG S base os j (⟨i,o.dst,c,sv⟩::recs) m'
def Ho.with {β:Type} (A:Ho β) (g:Nat) (b:Bool):Ho β:=⟨A.app,A.ops,A.hard,A.ch,(g,b)::A.ov⟩
def Sy.with {β:Type} (S:Sy β) (g:Nat) (b:Bool):Sy β:=⟨S.P,S.F,S.E,S.A.with g b,S.one,S.fuel⟩
def yiu {β:Type} (sz:Nat) (l:List Oper) (draw:Bool) (s:SSt β):Nat→Sy β→Tr β
 |0,S=>yfa S sz l draw s
 |n+1,S=>match yfa S sz l draw s with
  |.fail=>(match findG S s.base l 0 [] s.mem with
   |some (g,q)=>.br q (yiu sz l draw s n (S.with g true)) (yiu sz l draw s n (S.with g false))
   |none=>.fail)
  |t=>t
def Sy.bare {β:Type} (S:Sy β):Sy β:=⟨S.P,[],S.E,⟨fun _ _ _=>none,fun _ _ _=>none,S.A.hard,true,S.A.ov⟩,S.one,S.fuel⟩
def yg4 {β:Type} (S:Sy β) (sz:Nat) (l:List Oper) (draw:Bool) (s:SSt β):Tr β:=match S.A.ch with
 |true=>yiu sz l draw s 6 S
 |false=>(match yfa S sz l draw s with
  |.fail=>yiu sz l draw s 6 S.bare
  |t=>t)
def isBx {β:Type} (en:En β):Bool:=match en.ob with
 |.bx _=>true
 |_=>false
def anyBx {β:Type}:Mem β→Bool
 |[]=>false
 |en::r=>isBx en||anyBx r
def unE {β:Type} (en:En β):En β:=match en.ob with
 |.bx cs=>⟨.blk cs,en.mu⟩
 |_=>en
def unB {β:Type}:Mem β→Mem β
 |[]=>[]
 |en::r=>unE en::unB r
def reE {β:Type} (o n:En β):En β:=match isBx o with
 |true=>(match n.ob with
  |.blk cs=>⟨.bx cs,n.mu⟩
  |_=>n)
 |false=>n
def reB {β:Type}:Mem β→Mem β→Mem β
 |o::os,n::ns=>reE o n::reB os ns
 |_,ns=>ns
def noCall (o:Oper):Bool:=match o.op with
 |.call c=>(match c.callee with|.builtin _=>true|_=>false)
 |_=>true
def Tr.mapM {β:Type} (f:Mem β→Mem β):Tr β→Tr β
 |.leaf x s=>.leaf x ⟨s.base,f s.mem,s.ver⟩
 |.br b t e=>.br b (t.mapM f) (e.mapM f)
 |.need ps t=>.need ps (t.mapM f)
 |.fail=>.fail
def yho {β:Type} (S:Sy β) (sz:Nat) (l:List Oper) (draw:Bool) (s:SSt β):Tr β:=match anyBx s.mem&&allB noCall l with
 |true=>(yg4 S sz l draw ⟨s.base,unB s.mem,s.ver⟩).mapM (reB s.mem)
 |false=>yg4 S sz l draw s
def Sy.noF {β:Type} (S:Sy β):Sy β:=⟨S.P,[],S.E,⟨S.A.app,S.A.ops,fun _=>true,S.A.ch,S.A.ov⟩,S.one,S.fuel⟩
def yh9 {β:Type} (S:Sy β) (sz:Nat) (l:List Oper) (draw:Bool) (s:SSt β):Tr β:=match yho S sz l draw s with
 |.fail=>(match allB noCall l with
  |true=>(yg4 S.noF sz l draw ⟨s.base,unB s.mem,s.ver⟩).mapM (reB s.mem)
  |false=>.fail)
 |t=>t
def eqK (a b:IntKind):Bool:=decide (a=b)
def mergeV (b:Bool):Value→Value→Option Value
 |.bool x,.bool y=>some (.bool (cond b x y))
 |.int k x,.int k' y=>(match eqK k k' with|true=>some (.int k (cond b x y))|false=>none)
 |.string x,.string y=>some (.string (cond b x y))
 |.slice x n c,.slice y m d=>some (.slice (cond b x y) (cond b n m) (cond b c d))
 |_,_=>none
def ytx (b:Bool):PV→PV→PV
 |.ptr i o,.ptr j q=>(match eqb i j&&eqb o q with|true=>.ptr i o|false=>.any)
 |.obj i,.obj j=>(match eqb i j with|true=>.obj i|false=>.any)
 |x,y=>(match valP x,valP y with
  |some u,some w=>(match mergeV b u w with|some z=>.v z|none=>.any)
  |_,_=>.any)
def ydd (b:Bool):List PV→List PV→Option (List PV)
 |[],[]=>some []
 |x::xs,y::ys=>(match ydd b xs ys with|some zs=>some (ytx b x y::zs)|none=>none)
 |_,_=>none
def anyS:SV:=.c (.one .any)
def yl6 (b:Bool):Option SV→Option SV→SV
 |some (.c (.one x)),some (.c (.one y))=>.c (.one (ytx b x y))
 |some (.c (.agg x)),some (.c (.agg y))=>(match ydd b x y with|some z=>.c (.agg z)|none=>anyS)
 |_,_=>anyS
def yce (b:Bool) (b1 b2:List (Nat×SV)):List (Nat×SV)→List (Nat×SV)→List (Nat×SV)
 |[],r=>r
 |(t,_)::xs,r=>(t,yl6 b (yab t b1) (yab t b2))::yce b b1 b2 xs r
def joinT {β:Type} (b:Bool) (s0:SSt β) (t e:Tr β):Tr β:=
 match t,e with
 |.leaf .normal s1,.leaf .normal s2=>(match eqb s1.ver s0.ver&&eqb s2.ver s0.ver with
  |true=>.leaf .normal ⟨yce b s1.base s2.base (s1.base.take (s1.base.length - s0.base.length)) (yce b s1.base s2.base (s2.base.take (s2.base.length - s0.base.length)) s0.base),s0.mem,s0.ver⟩
  |false=>.br b t e)
 |_,_=>.br b t e
abbrev Lps (β:Type):=List (Nat×(SSt β→Option (Tr β)))
def ysb {β:Type} (f:Nat):Lps β→Option (SSt β→Option (Tr β))
 |[]=>none
 |(g,x)::rs=>match eqb g f with|true=>some x|false=>ysb f rs
def idC:Code→Nat
 |.region id _ _=>id
 |.seq x _=>idC x
 |.block _ x=>idC x
 |.loop x=>idC x
 |.cond _ x _=>idC x
 |_=>0
def iter {β:Type} (f:SSt β→Tr β):Nat→SSt β→Tr β
 |0,_=>.fail
 |n+1,s=>(f s).bind (iter f n)
def symC {β:Type} (S:Sy β) (L:Lps β) (sz:Nat):Code→SSt β→Tr β
 |.skip,s=>.leaf .normal s
 |.region id ops d,s=>(match ysb (id+100000) L with
  |some g=>(match g s with|some t=>t|none=>.fail)
  |none=>yh9 S sz ops.toList d s)
 |.seq x y,s=>(symC S L sz x s).bind (symC S L sz y)
 |.cond c x y,s=>(match ysb (idC x+200000) L with
  |some g=>(match g s with|some t=>t|none=>.fail)
  |none=>(match yax [] s.base [] c with
   |some (.c (.one (.kB true)))=>symC S L sz x s
   |some (.c (.one (.kB false)))=>symC S L sz y s
   |some (.c (.one (.v (.bool b))))=>joinT b s (symC S L sz x s) (symC S L sz y s)
   |_=>.fail))
 |.block id c,s=>(symC S L sz c s).unblock id
 |.exit id,s=>.leaf (.exit id) s
 |.ret,s=>.leaf .ret s
 |.loop c,s=>(match ysb (idC c) L with
  |some g=>(match g s with|some t=>t|none=>.fail)
  |none=>iter (symC S L sz c) S.fuel s)
 |_,_=>.fail
inductive RT (β:Type) where
 |leaf (x:SV) (s:SSt β)
 |br (b:Bool) (t e:RT β)
 |need (ps:List Prop) (t:RT β)
 |fail
def yhl {β:Type} (P:Program) (s:SSt β):ResultVar→Option CV
 |.tmp t=>cvS (yax [] s.base [] (.tmp t))
 |.cell t ty=>match pvS (yax [] s.base [] (.tmp t)) with
  |some p=>ynv P s.mem ty p
  |_=>none
def resS {β:Type} (P:Program) (rs:List ResultVar) (s:SSt β):Option SV:=
 match rs with
 |[]=>some (.tup [])
 |[a]=>(match yhl P s a with|some x=>some (.c x)|none=>none)
 |[a,b]=>(match yhl P s a,yhl P s b with|some x,some y=>some (.tup [x,y])|_,_=>none)
 |[a,b,c]=>(match yhl P s a,yhl P s b,yhl P s c with|some x,some y,some z=>some (.tup [x,y,z])|_,_,_=>none)
 |_=>none
def Tr.res {β:Type} (P:Program) (rs:List ResultVar):Tr β→RT β
 |.leaf (.exit _) _=>.fail
 |.leaf _ s=>(match resS P rs s with|some x=>.leaf x s|none=>.fail)
 |.br b t e=>.br b (t.res P rs) (e.res P rs)
 |.need ps t=>.need ps (t.res P rs)
 |.fail=>.fail
def yio:Nat→List CV→List (Nat×SV)
 |_,[]=>[]
 |i,x::xs=>(i,.c x)::yio (i+1) xs
def yat (f:Func):Code:=match f.body with|some c=>c|none=>.skip
def ybu {β:Type} (S:Sy β) (L:Lps β) (fn:Func) (args:List CV) (mem:Mem β):RT β:=
 (symC S L fn.ntmps (yat fn) ⟨yio 0 args,mem,0⟩).res S.P fn.results.toList
theorem yam {α:Type} {P:Program}:∀ (s:Sem α) {x:α},yan P s=some x→∀ w,s.run P w=.ok x w
 |.pure a,x,h,w=>by simp only [yan,Option.some.injEq] at h;subst h;rfl
 |.program k,x,h,w=>by
  simp only [yan] at h
  simp only [Sem.run]
  exact yam (k P) h w
 |.load _ _ _,_,h,_=>by simp [yan] at h
 |.store _ _ _ _,_,h,_=>by simp [yan] at h
 |.new _ _,_,h,_=>by simp [yan] at h
 |.shape _ _,_,h,_=>by simp [yan] at h
 |.freeze _ _ _,_,h,_=>by simp [yan] at h
 |.frozen _ _,_,h,_=>by simp [yan] at h
 |.getObj _ _,_,h,_=>by simp [yan] at h
 |.setObj _ _ _,_,h,_=>by simp [yan] at h
 |.choose _ _,_,h,_=>by simp [yan] at h
 |.sys _ _,_,h,_=>by simp [yan] at h
 |.mark _ _,_,h,_=>by simp [yan] at h
 |.halt _,_,h,_=>by simp [yan] at h
theorem eqb_eq {a b:Nat}:eqb a b=true↔a=b:=⟨fun h=>Nat.eq_of_beq_eq_true h,fun h=>by subst h;exact Nat.beq_refl a⟩
theorem ymk {a b:Nat} (h:a≠b):eqb a b=false:=by
 cases hb:eqb a b with
 |false=>rfl
 |true=>exact absurd (eqb_eq.1 hb) h
theorem leb_le {a b:Nat}:leb a b=true↔a≤b:=⟨fun h=>Nat.le_of_ble_eq_true h,fun h=>Nat.ble_eq_true_of_le h⟩
theorem beqB_eq {a b:Bool}:beqB a b=true↔a=b:=by cases a<;>cases b<;>simp [beqB]
theorem yct {α:Type} {f:α→Bool}:∀ {l:List α},allB f l=true→∀ x∈l,f x=true
 |[],_,x,hx=>by cases hx
 |y::l,h,x,hx=>by
  simp only [allB,zbs] at h
  rcases List.mem_cons.1 hx with rfl|hx
  ·exact h.1
  ·exact yct h.2 x hx
theorem yjj {α β:Type} {f:α→Option β}:∀ {l:List α} {r:List β},mapO f l=some r→r.length=l.length∧∀ (i:Nat) (x:α),l[i]? =some x→∃ y,r[i]? =some y∧f x=some y
 |[],r,h=>by simp only [mapO,Option.some.injEq] at h;subst h;simp
 |x::l,r,h=>by
  simp only [mapO] at h
  split at h
  ·cases h
  ·rename_i y hy
   split at h
   ·cases h
   ·rename_i ys hys
    simp only [Option.some.injEq] at h
    subst h
    obtain ⟨h1,h2⟩:=yjj hys
    refine ⟨by simp [h1],fun i z hz=>?_⟩
    cases i with
    |zero=>simp at hz;subst hz;exact ⟨y,rfl,hy⟩
    |succ i=>simpa using h2 i z (by simpa using hz)
abbrev Env:=List Value
def AtB (x:Value) (b o:Nat):Prop:=x=.pointer (some ⟨b,o,none⟩)∨∃ n c,x=.slice (some ⟨b,o,none⟩) n c
def PV.is (e:Env):PV→Value→Prop
 |.v x,u=>u=x
 |.kI k n,u=>u=.int k n
 |.kB b,u=>u=.bool b
 |.kS s,u=>u=.string s
 |.ptr i off,u=>∃ b o,e[i]? =some (.pointer (some ⟨b,o,none⟩))∧u=.pointer (some ⟨b,o+off,none⟩)
 |.elt i sz idx off,u=>∃ b o n cap,e[i]? =some (.slice (some ⟨b,o,none⟩) n cap)∧yc3 idx n∧u=.pointer (some ⟨b,o+(idx.toNat * sz+off),none⟩)
 |.obj i,u=>e[i]? =some u
 |.sub i sz lo hi,u=>∃ ao n cap,e[i]? =some (.slice ao n cap)∧lo≤hi∧hi≤n∧u=.slice (if cap=lo then ao else ao.map (·.add (lo * sz))) (hi - lo) (cap - lo)
 |.win i sz idx off len cap,u=>∃ x b o,e[i]? =some x∧AtB x b o∧u=.slice (some ⟨b,o+(idx.toNat * sz+off),none⟩) len cap
 |.any,_=>True
def AllIs (e:Env):List PV→List Value→Prop
 |[],[]=>True
 |x::xs,u::us=>x.is e u∧AllIs e xs us
 |_,_=>False
def CV.is (e:Env):CV→Value→Prop
 |.one p,u=>p.is e u
 |.agg cs,u=>∃ us,AllIs e cs us∧u=.agg us.toArray
 |.fn f ca,u=>∃ vs,AllIs e ca vs∧u=.func (.func f) #[] vs.toArray
def AllC (e:Env):List CV→List Value→Prop
 |[],[]=>True
 |x::xs,u::us=>x.is e u∧AllC e xs us
 |_,_=>False
def SV.is (e:Env):SV→Value→Prop
 |.c x,u=>x.is e u
 |.tup xs,u=>∃ us,AllC e xs us∧u=.tuple us.toArray
 |.fn f fi ca,u=>∃ us vs,AllIs e fi us∧AllIs e ca vs∧u=.func (.func f) us.toArray vs.toArray
 |.gd b x,u=>(b=true→x.is e u)∧(b=false→u=undef)
def Grows (e e':Env):Prop:=∀ (i:Nat) (x:Value),e[i]? =some x→e'[i]? =some x
theorem Grows.refl (e:Env):Grows e e:=fun _ _ h=>h
theorem Grows.trans {a b c:Env} (h:Grows a b) (k:Grows b c):Grows a c:=fun i x hx=>k i x (h i x hx)
theorem Grows.push (e:Env) (x:Value):Grows e (e++[x]):=fun i y h=>by
 rw [zad (zab.1 h).1];exact h
theorem PV.is_mono {e e':Env} (h:Grows e e'):∀ {x:PV} {u:Value},x.is e u→x.is e' u
 |.v _,_,hx=>hx
 |.kI _ _,_,hx=>hx
 |.kB _,_,hx=>hx
 |.kS _,_,hx=>hx
 |.ptr _ _,_,⟨b,o,h1,h2⟩=>⟨b,o,h _ _ h1,h2⟩
 |.elt _ _ _ _,_,⟨b,o,n,c,h1,h2⟩=>⟨b,o,n,c,h _ _ h1,h2⟩
 |.obj _,_,hx=>h _ _ hx
 |.sub _ _ _ _,_,⟨ao,n,c,h1,h2⟩=>⟨ao,n,c,h _ _ h1,h2⟩
 |.win _ _ _ _ _ _,_,⟨x,b,o,h1,h2⟩=>⟨x,b,o,h _ _ h1,h2⟩
 |.any,_,_=>trivial
theorem AllIs.mono {e e':Env} (h:Grows e e'):∀ {xs:List PV} {us:List Value},AllIs e xs us→AllIs e' xs us
 |[],[],hx=>hx
 |_::_,_::_,⟨h1,h2⟩=>⟨PV.is_mono h h1,h2.mono h⟩
 |[],_::_,hx=>hx.elim
 |_::_,[],hx=>hx.elim
theorem CV.is_mono {e e':Env} (h:Grows e e'):∀ {x:CV} {u:Value},x.is e u→x.is e' u
 |.one _,_,hx=>PV.is_mono h hx
 |.agg _,_,⟨us,h1,h2⟩=>⟨us,h1.mono h,h2⟩
 |.fn _ _,_,⟨us,h1,h2⟩=>⟨us,h1.mono h,h2⟩
theorem AllC.mono {e e':Env} (h:Grows e e'):∀ {xs:List CV} {us:List Value},AllC e xs us→AllC e' xs us
 |[],[],hx=>hx
 |_::_,_::_,⟨h1,h2⟩=>⟨CV.is_mono h h1,h2.mono h⟩
 |[],_::_,hx=>hx.elim
 |_::_,[],hx=>hx.elim
theorem SV.is_mono {e e':Env} (h:Grows e e'):∀ {x:SV} {u:Value},x.is e u→x.is e' u
 |.c _,_,hx=>CV.is_mono h hx
 |.tup _,_,⟨us,h1,h2⟩=>⟨us,h1.mono h,h2⟩
 |.fn _ _ _,_,⟨us,vs,h1,h2,h3⟩=>⟨us,vs,h1.mono h,h2.mono h,h3⟩
 |.gd _ _,_,⟨h1,h2⟩=>⟨fun hb=>SV.is_mono h (h1 hb),h2⟩
theorem AllIs.len {e:Env}:∀ {xs:List PV} {us:List Value},AllIs e xs us→us.length=xs.length
 |[],[],_=>rfl
 |_::xs,_::us,⟨_,h⟩=>by simp [AllIs.len h]
 |[],_::_,h=>h.elim
 |_::_,[],h=>h.elim
theorem AllC.len {e:Env}:∀ {xs:List CV} {us:List Value},AllC e xs us→us.length=xs.length
 |[],[],_=>rfl
 |_::xs,_::us,⟨_,h⟩=>by simp [AllC.len h]
 |[],_::_,h=>h.elim
 |_::_,[],h=>h.elim
theorem AllIs.get {e:Env}:∀ {xs:List PV} {us:List Value},AllIs e xs us→∀ (j:Nat) (p:PV) (u:Value),xs[j]? =some p→us[j]? =some u→p.is e u
 |[],[],_,j,p,u,h,_=>by simp at h
 |x::xs,v::us,⟨h1,h2⟩,j,p,u,hp,hu=>by
  cases j with
  |zero=>simp at hp hu;subst hp;subst hu;exact h1
  |succ j=>exact h2.get j p u (by simpa using hp) (by simpa using hu)
 |[],_::_,h,_,_,_,_,_=>h.elim
 |_::_,[],h,_,_,_,_,_=>h.elim
theorem AllC.get {e:Env}:∀ {xs:List CV} {us:List Value},AllC e xs us→∀ (j:Nat) (p:CV) (u:Value),xs[j]? =some p→us[j]? =some u→p.is e u
 |[],[],_,j,p,u,h,_=>by simp at h
 |x::xs,v::us,⟨h1,h2⟩,j,p,u,hp,hu=>by
  cases j with
  |zero=>simp at hp hu;subst hp;subst hu;exact h1
  |succ j=>exact h2.get j p u (by simpa using hp) (by simpa using hu)
 |[],_::_,h,_,_,_,_,_=>h.elim
 |_::_,[],h,_,_,_,_,_=>h.elim
theorem AllIs.mk {e:Env}:∀ {xs:List PV} {us:List Value},us.length=xs.length→(∀ (j:Nat) (p:PV) (u:Value),xs[j]? =some p→us[j]? =some u→p.is e u)→AllIs e xs us
 |[],[],_,_=>trivial
 |x::xs,u::us,hl,h=>⟨h 0 x u rfl rfl,AllIs.mk (by simpa using hl) fun j p v hp hv=>h (j+1) p v (by simpa using hp) (by simpa using hv)⟩
 |[],_::_,hl,_=>by simp at hl
 |_::_,[],hl,_=>by simp at hl
theorem AllIs.append {e:Env}:∀ {xs ys:List PV} {us vs:List Value},AllIs e xs us→AllIs e ys vs→AllIs e (xs++ys) (us++vs)
 |[],_,[],_,_,h=>h
 |_::_,_,_::_,_,⟨h1,h2⟩,h=>⟨h1,h2.append h⟩
 |[],_,_::_,_,h,_=>h.elim
 |_::_,_,[],_,h,_=>h.elim
theorem AllC.append {e:Env}:∀ {xs ys:List CV} {us vs:List Value},AllC e xs us→AllC e ys vs→AllC e (xs++ys) (us++vs)
 |[],_,[],_,_,h=>h
 |_::_,_,_::_,_,⟨h1,h2⟩,h=>⟨h1,h2.append h⟩
 |[],_,_::_,_,h,_=>h.elim
 |_::_,_,[],_,h,_=>h.elim
theorem AllIs.ones {e:Env}:∀ {xs:List PV} {us:List Value},AllIs e xs us→AllC e (xs.map .one) us
 |[],[],h=>h
 |_::_,_::_,⟨h1,h2⟩=>⟨h1,h2.ones⟩
 |[],_::_,h=>h.elim
 |_::_,[],h=>h.elim
theorem yli (e:Env):∀ us:List Value,AllIs e (us.map .v) us
 |[]=>trivial
 |_::us=>⟨rfl,yli e us⟩
theorem yad {e:Env} {p:PV} {x u:Value} (h:valP p=some x) (hu:p.is e u):u=x:=by
 cases p<;>simp only [valP,Option.some.injEq,reduceCtorEq] at h
 all_goals subst h;exact hu
theorem is_valP {e:Env} {p:PV} {x:Value} (h:valP p=some x):p.is e x:=by
 cases p<;>simp only [valP,Option.some.injEq,reduceCtorEq] at h
 all_goals subst h;rfl
theorem yes {e:Env}:∀ {ps:List PV} {xs us:List Value},mapO valP ps=some xs→AllIs e ps us→us=xs
 |[],xs,[],h,_=>by simp only [mapO,Option.some.injEq] at h;exact h
 |p::ps,xs,u::us,h,⟨h1,h2⟩=>by
  simp only [mapO] at h
  split at h
  ·cases h
  ·rename_i y hy
   split at h
   ·cases h
   ·rename_i ys hys
    simp only [Option.some.injEq] at h
    subst h
    rw [yad hy h1,yes hys h2]
 |[],_,_::_,_,h=>h.elim
 |_::_,_,[],_,h=>h.elim
theorem valC_is {e:Env} {c:CV} {x u:Value} (h:valC c=some x) (hu:c.is e u):u=x:=by
 cases c with
 |fn f ca=>cases h
 |one p=>exact yad h hu
 |agg cs=>
  simp only [valC] at h
  split at h
  ·rename_i xs hxs
   simp only [Option.some.injEq] at h
   subst h
   obtain ⟨us,h1,rfl⟩:=hu
   rw [yes hxs h1]
  ·cases h
theorem ykh {e:Env}:∀ {ps:List CV} {xs us:List Value},mapO valC ps=some xs→AllC e ps us→us=xs
 |[],xs,[],h,_=>by simp only [mapO,Option.some.injEq] at h;exact h
 |p::ps,xs,u::us,h,⟨h1,h2⟩=>by
  simp only [mapO] at h
  split at h
  ·cases h
  ·rename_i y hy
   split at h
   ·cases h
   ·rename_i ys hys
    simp only [Option.some.injEq] at h
    subst h
    rw [valC_is hy h1,ykh hys h2]
 |[],_,_::_,_,h=>h.elim
 |_::_,_,[],_,h=>h.elim
structure ObI (β:Type) where
 holds:β→World→Value→Prop
 foot:β→World→Value→Nat→Prop
 own:β→World→Value→Nat→Prop
 one:β→Bool
 stays:∀ b w u,holds b w u→∀ (F:Nat→Prop) w',Mod F w w'→(∀ k,foot b w u k→¬ F k)→holds b w' u∧(∀ k,foot b w' u k→foot b w u k)∧∀ k,own b w' u k→own b w u k
 ones:∀ b w u,holds b w u→u.oneCell'=true
 owns:∀ b w u k,own b w u k→foot b w u k
def ObI.mk1 {β:Type} (holds:β→World→Value→Prop) (foot:β→World→Value→Nat→Prop) (one:β→Bool)
  (stays:∀ b w u,holds b w u→∀ (F:Nat→Prop) w',Mod F w w'→(∀ k,foot b w u k→¬ F k)→holds b w' u∧∀ k,foot b w' u k→foot b w u k) (ones:∀ b w u,holds b w u→u.oneCell'=true):ObI β:=
 ⟨holds,foot,foot,one,fun b w u h F w' hm hf=>⟨(stays b w u h F w' hm hf).1,(stays b w u h F w' hm hf).2,(stays b w u h F w' hm hf).2⟩,ones,fun _ _ _ _ h=>h⟩
section
variable {β:Type}
def Holds (I:ObI β) (e:Env) (w:World) (u:Value) (m:Bool):Ob β→Prop
 |.blk cells=>∃ b o,u=.pointer (some ⟨b,o,none⟩)∧∀ (j:Nat) (p:PV),cells[j]? =some p→∃ x,w.cell? ⟨b,o+j,none⟩=some x∧p.is e x∧(m=true→w.frozen? ⟨b,o+j,none⟩=false)
 |.bx cells=>∃ b o,u=.pointer (some ⟨b,o,none⟩)∧∀ (j:Nat) (p:PV),cells[j]? =some p→∃ x,w.cell? ⟨b,o+j,none⟩=some x∧p.is e x∧(m=true→w.frozen? ⟨b,o+j,none⟩=false)
 |.sl k _=>∃ ao cap,u=.slice ao k.n cap∧k.n≤cap∧cap≤9223372036854775807∧(ao=none→cap=0)∧∀ a,ao=some a→(k.n≠0→a.spot=none)∧∀ i,i<k.n→∀ (j:Nat) (p:PV),(k.cells i)[j]? =some p→∃ x,w.cell? ⟨a.block,a.off+(i * k.sz+j),none⟩=some x∧p.is e x
 |.us b=>I.holds b w u
 |.dead=>u.oneCell'=true
def Foot (I:ObI β) (w:World) (u:Value):Ob β→Nat→Prop
 |.blk _,k=>∃ b o,u=.pointer (some ⟨b,o,none⟩)∧k=b
 |.bx _,k=>∃ b o,u=.pointer (some ⟨b,o,none⟩)∧k=b
 |.sl s _,k=>s.n≠0∧u.ownBlock=some k
 |.us b,k=>I.foot b w u k
 |.dead,_=>False
def Own (I:ObI β) (w:World) (u:Value):Ob β→Nat→Prop
 |.us b,k=>I.own b w u k
 |.blk _,k=>∃ b o,u=.pointer (some ⟨b,o,none⟩)∧k=b
 |.bx _,k=>∃ b o,u=.pointer (some ⟨b,o,none⟩)∧k=b
 |.sl s _,k=>s.n≠0∧u.ownBlock=some k
 |.dead,_=>False
theorem Own.foot {I:ObI β} {w:World} {u:Value} {o:Ob β} {k:Nat} (h:Own I w u o k):Foot I w u o k:=by
 cases o with
 |us b=>exact I.owns b w u k h
 |blk c=>exact h
 |bx c=>exact h
 |sl s b=>exact h
 |dead=>exact h
theorem Holds.stay {I:ObI β} {e:Env} {w w':World} {u:Value} {m:Bool} {o:Ob β} {F:Nat→Prop} (h:Holds I e w u m o) (hm:Mod F w w') (hf:∀ k,Foot I w u o k→¬ F k):Holds I e w' u m o∧∀ k,Foot I w' u o k→Foot I w u o k:=by
 cases o with
 |blk cells=>
  refine ⟨?_,fun k hk=>hk⟩
  obtain ⟨b,o,rfl,h⟩:=h
  refine ⟨b,o,rfl,fun j p hp=>?_⟩
  obtain ⟨x,h1,h2,h3⟩:=h j p hp
  have hb:¬ F b:=hf b ⟨b,o,rfl,rfl⟩
  exact ⟨x,hm.cell h1 hb,h2,fun hmu=>hm.frozen (World.block_lt_of_cell? w _ h1) hb (h3 hmu)⟩
 |bx cells=>
  refine ⟨?_,fun k hk=>hk⟩
  obtain ⟨b,o,rfl,h⟩:=h
  refine ⟨b,o,rfl,fun j p hp=>?_⟩
  obtain ⟨x,h1,h2,h3⟩:=h j p hp
  have hb:¬ F b:=hf b ⟨b,o,rfl,rfl⟩
  exact ⟨x,hm.cell h1 hb,h2,fun hmu=>hm.frozen (World.block_lt_of_cell? w _ h1) hb (h3 hmu)⟩
 |sl k lb=>
  refine ⟨?_,fun k hk=>hk⟩
  obtain ⟨ao,cap,rfl,h1,h2,h3,h4⟩:=h
  refine ⟨ao,cap,rfl,h1,h2,h3,fun a ha=>⟨(h4 a ha).1,fun i hi j p hp=>?_⟩⟩
  obtain ⟨x,g1,g2⟩:=(h4 a ha).2 i hi j p hp
  exact ⟨x,hm.cell g1 (hf a.block ⟨by omega,by subst ha;rfl⟩),g2⟩
 |us b=>have:=I.stays b w u h F w' hm hf;exact ⟨this.1,this.2.1⟩
 |dead=>exact ⟨h,fun k hk=>hk⟩
theorem Holds.stayO {I:ObI β} {e:Env} {w w':World} {u:Value} {m:Bool} {o:Ob β} {F:Nat→Prop} (h:Holds I e w u m o) (hm:Mod F w w') (hf:∀ k,Foot I w u o k→¬ F k):∀ k,Own I w' u o k→Own I w u o k:=by
 cases o with
 |us b=>exact (I.stays b w u h F w' hm hf).2.2
 |blk c=>exact fun k hk=>hk
 |bx c=>exact fun k hk=>hk
 |sl s b=>exact fun k hk=>hk
 |dead=>exact fun k hk=>hk
theorem Holds.mono {I:ObI β} {e e':Env} {w:World} {u:Value} {m:Bool} {o:Ob β} (h:Holds I e w u m o) (hg:Grows e e'):Holds I e' w u m o:=by
 cases o with
 |blk cells=>
  obtain ⟨b,o,rfl,h⟩:=h
  exact ⟨b,o,rfl,fun j p hp=>by obtain ⟨x,h1,h2,h3⟩:=h j p hp;exact ⟨x,h1,PV.is_mono hg h2,h3⟩⟩
 |bx cells=>
  obtain ⟨b,o,rfl,h⟩:=h
  exact ⟨b,o,rfl,fun j p hp=>by obtain ⟨x,h1,h2,h3⟩:=h j p hp;exact ⟨x,h1,PV.is_mono hg h2,h3⟩⟩
 |sl k lb=>
  obtain ⟨ao,cap,rfl,h1,h2,h3,h4⟩:=h
  exact ⟨ao,cap,rfl,h1,h2,h3,fun a ha=>⟨(h4 a ha).1,fun i hi j p hp=>by obtain ⟨x,g1,g2⟩:=(h4 a ha).2 i hi j p hp;exact ⟨x,g1,PV.is_mono hg g2⟩⟩⟩
 |us b=>exact h
 |dead=>exact h
theorem Holds.oneCell {I:ObI β} {e:Env} {w:World} {u:Value} {m:Bool} {o:Ob β} (h:Holds I e w u m o):u.oneCell'=true:=by
 cases o with
 |blk cells=>obtain ⟨b,o,rfl,_⟩:=h;rfl
 |bx cells=>obtain ⟨b,o,rfl,_⟩:=h;rfl
 |sl k lb=>obtain ⟨ao,cap,rfl,_⟩:=h;rfl
 |us b=>exact I.ones b w u h
 |dead=>exact h
structure MemOk (W0:World) (G:Nat→Prop) (I:ObI β) (w:World) (e:Env) (mem:Mem β):Prop where
 len:e.length=mem.length
 holds:∀ (i:Nat) (u:Value) (n:En β),e[i]? =some u→mem[i]? =some n→Holds I e w u n.mu n.ob
 lt:∀ (i:Nat) (u:Value) (n:En β),e[i]? =some u→mem[i]? =some n→∀ k,Foot I w u n.ob k→k<w.heap.size
 own:∀ (i:Nat) (u:Value) (n:En β),e[i]? =some u→mem[i]? =some n→n.mu=true→∀ k,Own I w u n.ob k→W0.heap.size≤k∨G (2 * k)
 sep:∀ (i j:Nat) (u v:Value) (n m:En β),e[i]? =some u→mem[i]? =some n→n.mu=true→e[j]? =some v→mem[j]? =some m→i≠j→∀ k,Own I w u n.ob k→¬ Foot I w v m.ob k
 mod:Mod (fun k=>G (2 * k)) W0 w
 rd:∀ (i:Nat) (u:Value) (n:En β),e[i]? =some u→mem[i]? =some n→∀ k,Foot I w u n.ob k→W0.heap.size≤k∨¬ G (2 * k+1)
variable {W0:World} {G:Nat→Prop} {I:ObI β} {w w':World} {e:Env} {mem:Mem β}
theorem MemOk.ext (h:MemOk W0 G I w e mem) (hx:Ext w w'):MemOk W0 G I w' e mem:=by
 have st:∀ (i:Nat) (u:Value) (n:En β),e[i]? =some u→mem[i]? =some n→Holds I e w' u n.mu n.ob∧∀ k,Foot I w' u n.ob k→Foot I w u n.ob k:=fun i u n hu hn=>(h.holds i u n hu hn).stay hx (fun _ _=>id)
 have so:∀ (i:Nat) (u:Value) (n:En β),e[i]? =some u→mem[i]? =some n→∀ k,Own I w' u n.ob k→Own I w u n.ob k:=fun i u n hu hn=>(h.holds i u n hu hn).stayO hx (fun _ _=>id)
 exact ⟨h.len,fun i u n hu hn=>(st i u n hu hn).1,fun i u n hu hn k hk=>zbh (h.lt i u n hu hn k ((st i u n hu hn).2 k hk)) hx.size,fun i u n hu hn hm k hk=>h.own i u n hu hn hm k (so i u n hu hn k hk),
  fun i j u v n m hu hn hmu hv hm hij k hk hk'=>h.sep i j u v n m hu hn hmu hv hm hij k (so i u n hu hn k hk) ((st j v m hv hm).2 k hk'),h.mod.ext hx,fun i u n hu hn k hk=>h.rd i u n hu hn k ((st i u n hu hn).2 k hk)⟩
theorem MemOk.en (h:MemOk W0 G I w e mem) {i:Nat} {u:Value} (hu:e[i]? =some u):∃ n,mem[i]? =some n:=by
 have:=(zab.1 hu).1
 exact ⟨mem[i]'(by rw [← h.len];exact this),zaa _⟩
theorem MemOk.like (h:MemOk W0 G I w e mem) {mem':Mem β} (hl:mem'.length=mem.length) (hh:∀ (i:Nat) (n':En β),mem'[i]? =some n'→∃ n,mem[i]? =some n∧n'.mu=n.mu∧(∀ u,Holds I e w u n.mu n.ob→Holds I e w u n'.mu n'.ob)∧(∀ u k,Foot I w u n'.ob k→Foot I w u n.ob k)∧∀ u k,Own I w u n'.ob k→Own I w u n.ob k):MemOk W0 G I w e mem':=by
 refine ⟨h.len.trans hl.symm,fun i u n hu hn=>?_,fun i u n hu hn k hk=>?_,fun i u n hu hn hmu k hk=>?_,fun i j u v n m hu hn hmu hv hm hij k hk1 hk2=>?_,h.mod,fun i u n hu hn k hk=>?_⟩
 ·obtain ⟨n0,h1,h2,h3,h4,h5⟩:=hh i n hn
  exact h3 u (h.holds i u n0 hu h1)
 ·obtain ⟨n0,h1,h2,h3,h4,h5⟩:=hh i n hn
  exact h.lt i u n0 hu h1 k (h4 u k hk)
 ·obtain ⟨n0,h1,h2,h3,h4,h5⟩:=hh i n hn
  exact h.own i u n0 hu h1 (h2▸hmu) k (h5 u k hk)
 ·obtain ⟨n0,h1,h2,h3,h4,h5⟩:=hh i n hn
  obtain ⟨m0,g1,g2,g3,g4,g5⟩:=hh j m hm
  exact h.sep i j u v n0 m0 hu h1 (h2▸hmu) hv g1 hij k (h5 u k hk1) (g4 v k hk2)
 ·obtain ⟨n0,h1,h2,h3,h4,h5⟩:=hh i n hn
  exact h.rd i u n0 hu h1 k (h4 u k hk)
theorem unB_get:∀ (m:Mem β) (i:Nat),(unB m)[i]? =m[i]?.map unE
 |[],i=>by simp [unB]
 |en::r,0=>by simp [unB]
 |en::r,i+1=>by simp only [unB,zat];exact unB_get r i
theorem unB_len:∀ m:Mem β,(unB m).length=m.length
 |[]=>rfl
 |en::r=>by simp [unB,unB_len r]
theorem reB_get:∀ (o m:Mem β) (i:Nat) (n':En β),(reB o m)[i]? =some n'→∃ n,m[i]? =some n∧(n'=n∨∃ a,n'=reE a n)
 |[],m,i,n',h=>by simp only [reB] at h;exact ⟨n',h,.inl rfl⟩
 |o::os,[],i,n',h=>by simp [reB] at h
 |o::os,n::ns,0,n',h=>by simp [reB] at h;exact ⟨n,rfl,.inr ⟨o,h.symm⟩⟩
 |o::os,n::ns,i+1,n',h=>by
  simp only [reB,zat] at h ⊢
  exact reB_get os ns i n' h
theorem reB_len:∀ o m:Mem β,(reB o m).length=m.length
 |[],m=>rfl
 |o::os,[]=>rfl
 |o::os,n::ns=>by simp [reB,reB_len os ns]
theorem yrt:∀ m:Mem β,reB m (unB m)=m
 |[]=>rfl
 |en::r=>by
  simp only [unB,reB,yrt r]
  congr 1
  obtain ⟨ob,mu⟩:=en
  cases ob<;>rfl
theorem MemOk.unB (h:MemOk W0 G I w e mem):MemOk W0 G I w e (unB mem):=h.like (unB_len mem) fun i n' hn=>by
 rw [unB_get] at hn
 cases hm:mem[i]? with
 |none=>rw [hm] at hn;cases hn
 |some en=>
  rw [hm] at hn
  simp only [Option.map_some,Option.some.injEq] at hn
  subst hn
  obtain ⟨ob,mu⟩:=en
  refine ⟨_,rfl,?_⟩
  cases ob<;>exact ⟨rfl,fun u h=>h,fun u k h=>h,fun u k h=>h⟩
theorem MemOk.reB (h:MemOk W0 G I w e mem) (o:Mem β):MemOk W0 G I w e (reB o mem):=h.like (reB_len o mem) fun i n' hn=>by
 obtain ⟨n,h1,h2⟩:=reB_get o mem i n' hn
 refine ⟨n,h1,?_⟩
 rcases h2 with rfl|⟨a,rfl⟩
 ·exact ⟨rfl,fun u h=>h,fun u k h=>h,fun u k h=>h⟩
 ·obtain ⟨ob,mu⟩:=n
  unfold reE
  split
  ·cases ob<;>exact ⟨rfl,fun u h=>h,fun u k h=>h,fun u k h=>h⟩
  ·exact ⟨rfl,fun u h=>h,fun u k h=>h,fun u k h=>h⟩
theorem MemOk.upd2 (h:MemOk W0 G I w e mem) {i:Nat} {u:Value} {o:Ob β} (hu:e[i]? =some u) (hn:mem[i]? =some ⟨o,true⟩) (hm:Mod (fun k=>Own I w u o k) w w') (n':En β)
  (hold:Holds I e w' u n'.mu n'.ob) (hf:∀ k,Foot I w' u n'.ob k→(Foot I w u o k∨w.heap.size≤k)∧k<w'.heap.size) (ho:∀ k,Own I w' u n'.ob k→Own I w u o k∨w.heap.size≤k):MemOk W0 G I w' e (mem.set i n'):=by
 have hset:∀ (j:Nat) (m:En β),(mem.set i n')[j]? =some m→(j=i∧m=n')∨(j≠i∧mem[j]? =some m):=fun j m hj=>by
  by_cases he:j=i
  ·subst he
   rw [zar (zab.1 hn).1] at hj
   exact .inl ⟨rfl,by simpa using hj.symm⟩
  ·rw [zao (fun e=>he e.symm)] at hj
   exact .inr ⟨he,hj⟩
 have dis:∀ (j:Nat) (v:Value) (m:En β),j≠i→e[j]? =some v→mem[j]? =some m→∀ k,Foot I w v m.ob k→¬ Own I w u o k:=fun j v m hj hv hmm k hk hk'=>h.sep i j u v _ m hu hn rfl hv hmm (fun e=>hj e.symm) k hk' hk
 have st:∀ (j:Nat) (v:Value) (m:En β),j≠i→e[j]? =some v→mem[j]? =some m→Holds I e w' v m.mu m.ob∧∀ k,Foot I w' v m.ob k→Foot I w v m.ob k:=fun j v m hj hv hmm=>
  (h.holds j v m hv hmm).stay hm (dis j v m hj hv hmm)
 have so:∀ (j:Nat) (v:Value) (m:En β),j≠i→e[j]? =some v→mem[j]? =some m→∀ k,Own I w' v m.ob k→Own I w v m.ob k:=fun j v m hj hv hmm=>(h.holds j v m hv hmm).stayO hm (dis j v m hj hv hmm)
 refine ⟨by rw [h.len];simp,fun j v m hv hmm=>?_,fun j v m hv hmm k hk=>?_,fun j v m hv hmm hmu k hk=>?_,fun j1 j2 v1 v2 m1 m2 hv1 hm1 hmu hv2 hm2 hne k hk1 hk2=>?_,?_,fun j v m hv hmm k hk=>?_⟩
 ·rcases hset j m hmm with ⟨rfl,rfl⟩|⟨hne,h1⟩
  ·rw [hu] at hv;cases hv;exact hold
  ·exact (st j v m hne hv h1).1
 ·rcases hset j m hmm with ⟨rfl,rfl⟩|⟨hne,h1⟩
  ·rw [hu] at hv;cases hv;exact (hf k hk).2
  ·exact zbh (h.lt j v m hv h1 k ((st j v m hne hv h1).2 k hk)) hm.size
 ·rcases hset j m hmm with ⟨rfl,rfl⟩|⟨hne,h1⟩
  ·rw [hu] at hv;cases hv
   rcases ho k hk with h2|h2
   ·exact h.own j u _ hu hn rfl k h2
   ·exact .inl (zbl h.mod.size h2)
  ·exact h.own j v m hv h1 hmu k (so j v m hne hv h1 k hk)
 ·rcases hset j1 m1 hm1 with ⟨rfl,rfl⟩|⟨hne1,g1⟩
  ·rw [hu] at hv1;cases hv1
   rcases hset j2 m2 hm2 with ⟨h2,_⟩|⟨hne2,g2⟩
   ·exact hne h2.symm
   ·have q:=(st j2 v2 m2 hne2 hv2 g2).2 k hk2
    rcases ho k hk1 with h3|h3
    ·exact h.sep j1 j2 u v2 _ m2 hu hn rfl hv2 g2 hne k h3 q
    ·have:=h.lt j2 v2 m2 hv2 g2 k q;omega
  ·have q1:=so j1 v1 m1 hne1 hv1 g1 k hk1
   rcases hset j2 m2 hm2 with ⟨rfl,rfl⟩|⟨hne2,g2⟩
   ·rw [hu] at hv2;cases hv2
    rcases (hf k hk2).1 with h3|h3
    ·exact h.sep j1 j2 v1 u m1 _ hv1 g1 hmu hu hn hne k q1 h3
    ·have:=h.lt j1 v1 m1 hv1 g1 k q1.foot;omega
   ·exact h.sep j1 j2 v1 v2 m1 m2 hv1 g1 hmu hv2 g2 hne k q1 ((st j2 v2 m2 hne2 hv2 g2).2 k hk2)
 ·refine Mod.trans h.mod hm fun k hk hl=>?_
  rcases h.own i u _ hu hn rfl k hk with h1|h1
  ·omega
  ·exact h1
 ·rcases hset j m hmm with ⟨rfl,rfl⟩|⟨hne,h1⟩
  ·rw [hu] at hv;cases hv
   rcases (hf k hk).1 with h2|h2
   ·exact h.rd j u _ hu hn k h2
   ·exact .inl (zbl h.mod.size h2)
  ·exact h.rd j v m hv h1 k ((st j v m hne hv h1).2 k hk)
theorem MemOk.upd (h:MemOk W0 G I w e mem) {i:Nat} {u:Value} {o:Ob β} (hu:e[i]? =some u) (hn:mem[i]? =some ⟨o,true⟩) (hm:Mod (fun k=>Own I w u o k) w w') (n':En β)
  (hold:Holds I e w' u n'.mu n'.ob) (hf:∀ k,Foot I w' u n'.ob k→(Own I w u o k∨w.heap.size≤k)∧k<w'.heap.size):MemOk W0 G I w' e (mem.set i n'):=
 h.upd2 hu hn hm n' hold (fun k hk=>⟨(hf k hk).1.imp Own.foot id,(hf k hk).2⟩) fun k hk=>(hf k hk.foot).1
theorem MemOk.push (h:MemOk W0 G I w e mem) (hx:Ext w w') (u:Value) (n:En β) (hold:Holds I (e++[u]) w' u n.mu n.ob) (hf:∀ k,Foot I w' u n.ob k→w.heap.size≤k∧k<w'.heap.size):MemOk W0 G I w' (e++[u]) (mem++[n]):=by
 have h':=h.ext hx
 have hg:Grows e (e++[u]):=Grows.push e u
 have he:∀ (i:Nat) (v:Value),(e++[u])[i]? =some v→(i<e.length∧e[i]? =some v)∨(i=e.length∧v=u):=fun i v hv=>by
  rcases zbk i e.length with hi|hi
  ·rw [zad hi] at hv;exact .inl ⟨hi,hv⟩
  ·rw [zac hi] at hv
   have:i - e.length=0:=by
    rcases Nat.eq_zero_or_pos (i - e.length) with h0|h0
    ·exact h0
    ·rw [zas (by simp;omega)] at hv;cases hv
   rw [this] at hv
   simp at hv
   exact .inr ⟨by omega,hv.symm⟩
 have hmm:∀ (i:Nat) (m:En β),(mem++[n])[i]? =some m→(i<e.length∧mem[i]? =some m)∨(i=e.length∧m=n):=fun i m hv=>by
  have hl:=h.len
  rcases zbk i mem.length with hi|hi
  ·rw [zad hi] at hv;exact .inl ⟨by omega,hv⟩
  ·rw [zac hi] at hv
   have:i - mem.length=0:=by
    rcases Nat.eq_zero_or_pos (i - mem.length) with h0|h0
    ·exact h0
    ·rw [zas (by simp;omega)] at hv;cases hv
   rw [this] at hv
   simp at hv
   exact .inr ⟨by omega,hv.symm⟩
 have old:∀ (i:Nat) (v:Value) (m:En β),i<e.length→e[i]? =some v→mem[i]? =some m→∀ k,Foot I w' v m.ob k→k<w.heap.size:=fun i v m _ hv hm k hk=>
  h.lt i v m hv hm k (((h.holds i v m hv hm).stay hx (fun _ _=>id)).2 k hk)
 refine ⟨by simp [h.len],fun i v m hv hm=>?_,fun i v m hv hm k hk=>?_,fun i v m hv hm hmu k hk=>?_,fun i j v1 v2 m1 m2 hv1 hm1 hmu hv2 hm2 hne k hk1 hk2=>?_,h'.mod,fun i v m hv hm k hk=>?_⟩
 ·rcases he i v hv with ⟨hi,h1⟩|⟨hi,rfl⟩
  ·rcases hmm i m hm with ⟨_,h2⟩|⟨h2,_⟩
   ·exact (h'.holds i v m h1 h2).mono hg
   ·omega
  ·rcases hmm i m hm with ⟨h2,_⟩|⟨_,rfl⟩
   ·omega
   ·exact hold
 ·rcases he i v hv with ⟨hi,h1⟩|⟨hi,rfl⟩
  ·rcases hmm i m hm with ⟨_,h2⟩|⟨h2,_⟩
   ·exact h'.lt i v m h1 h2 k hk
   ·omega
  ·rcases hmm i m hm with ⟨h2,_⟩|⟨_,rfl⟩
   ·omega
   ·exact (hf k hk).2
 ·rcases he i v hv with ⟨hi,h1⟩|⟨hi,rfl⟩
  ·rcases hmm i m hm with ⟨_,h2⟩|⟨h2,_⟩
   ·exact h'.own i v m h1 h2 hmu k hk
   ·omega
  ·rcases hmm i m hm with ⟨h2,_⟩|⟨_,rfl⟩
   ·omega
   ·exact .inl (zbl h.mod.size (hf k hk.foot).1)
 ·rcases he i v1 hv1 with ⟨hi,h1⟩|⟨hi,rfl⟩
  ·rcases hmm i m1 hm1 with ⟨_,h2⟩|⟨h2,_⟩
   ·rcases he j v2 hv2 with ⟨hj,h3⟩|⟨hj,rfl⟩
    ·rcases hmm j m2 hm2 with ⟨_,h4⟩|⟨h4,_⟩
     ·exact h'.sep i j v1 v2 m1 m2 h1 h2 hmu h3 h4 hne k hk1 hk2
     ·omega
    ·rcases hmm j m2 hm2 with ⟨h4,_⟩|⟨_,rfl⟩
     ·omega
     ·have:=old i v1 m1 hi h1 h2 k hk1.foot
      have:=(hf k hk2).1
      omega
   ·omega
  ·rcases hmm i m1 hm1 with ⟨h2,_⟩|⟨_,rfl⟩
   ·omega
   ·rcases he j v2 hv2 with ⟨hj,h3⟩|⟨hj,rfl⟩
    ·rcases hmm j m2 hm2 with ⟨_,h4⟩|⟨h4,_⟩
     ·have:=old j v2 m2 hj h3 h4 k hk2
      have:=(hf k hk1.foot).1
      omega
     ·omega
    ·omega
 ·rcases he i v hv with ⟨hi,h1⟩|⟨hi,rfl⟩
  ·rcases hmm i m hm with ⟨_,h2⟩|⟨h2,_⟩
   ·exact h'.rd i v m h1 h2 k hk
   ·omega
  ·rcases hmm i m hm with ⟨h2,_⟩|⟨_,rfl⟩
   ·omega
   ·exact .inl (zbl h.mod.size (hf k hk).1)
theorem ypc {P:Program} {ty:TypeId} {cells:List PV} {off:Nat} {y:CV} (h:yfr P ty cells off=some y):
  (∃ n,(isAgg ty).run P w=.ok true w∧(sizeOf ty).run P w=.ok n w∧off+n≤cells.length∧y=.agg ((cells.drop off).take n))∨∃ p,(isAgg ty).run P w=.ok false w∧cells[off]? =some p∧y=.one p:=by
 unfold yfr at h
 split at h
 ·rename_i hA
  split at h
  ·rename_i n hn
   split at h
   ·rename_i hle
    simp only [Option.some.injEq] at h
    exact .inl ⟨n,yam _ hA w,yam _ hn w,leb_le.1 hle,h.symm⟩
   ·cases h
  ·cases h
 ·rename_i hA
  split at h
  ·rename_i p hp
   simp only [Option.some.injEq] at h
   exact .inr ⟨p,yam _ hA w,hp,h.symm⟩
  ·cases h
 ·cases h
theorem ydl {P:Program} {ty:TypeId} {cells:List PV} {off:Nat} {y:CV} (h:yfr P ty cells off=some y) {b o:Nat} (hc:∀ (j:Nat) (p:PV),cells[j]? =some p→∃ x,w.cell? ⟨b,o+j,none⟩=some x∧p.is e x):
  ∃ u,(loadVar ty ⟨b,o+off,none⟩).run P w=.ok u w∧y.is e u:=by
 rcases ypc (w:=w) h with ⟨n,h1,h2,h3,rfl⟩|⟨p,h1,h2,rfl⟩
 ·have key:∀ j,j<n→∃ x,w.cell? ⟨b,o+off+j,none⟩=some x∧∃ p,cells[off+j]? =some p∧p.is e x:=fun j hj=>by
   have hcl:cells[off+j]? =some (cells[off+j]'(by omega)):=zaa (by omega)
   obtain ⟨x,g1,g2⟩:=hc _ _ hcl
   exact ⟨x,by rw [Nat.add_assoc];exact g1,_,hcl,g2⟩
  have:∃ xs:List Value,xs.length=n∧∀ (j:Nat) (x:Value),xs[j]? =some x→w.cell? ⟨b,o+off+j,none⟩=some x∧∃ p,cells[off+j]? =some p∧p.is e x:=by
   clear h h1 h2
   have gen:∀ m,m≤n→∃ xs:List Value,xs.length=m∧∀ (j:Nat) (x:Value),xs[j]? =some x→w.cell? ⟨b,o+off+j,none⟩=some x∧∃ p,cells[off+j]? =some p∧p.is e x:=by
    intro m
    induction m with
    |zero=>intro _;exact ⟨[],rfl,fun j x h=>by simp at h⟩
    |succ m ih=>
     intro hm
     obtain ⟨xs,hl,hx⟩:=ih (by omega)
     obtain ⟨y,hy⟩:=key m (by omega)
     refine ⟨xs++[y],by simp [hl],fun j x hj=>?_⟩
     by_cases hjm:j<m
     ·rw [zad (by omega)] at hj;exact hx j x hj
     ·rw [zac (by omega),hl] at hj
      have:j - m=0:=by
       rcases Nat.eq_zero_or_pos (j - m) with h0|h0
       ·exact h0
       ·rw [zas (by simp;omega)] at hj;cases hj
      rw [this] at hj
      simp at hj
      have hjm':j=m:=by omega
      subst hjm';subst hj;exact hy
   exact gen n (zbm _)
  obtain ⟨xs,hl,hx⟩:=this
  have hr:(loadCells ⟨b,o+off,none⟩ xs.length).run P w=.ok xs.toArray w:=run_loadCells_list (P:=P) w ⟨b,o+off,none⟩ xs fun j v hv=>by
   rw [Addr.add_mid];exact (hx j v hv).1
  rw [hl] at hr
  refine ⟨.agg xs.toArray,by simp [loadVar,Sem.run_bind,h1,h2,hr],xs,AllIs.mk (by simp [hl];omega) fun j p u hp hu=>?_,rfl⟩
  rw [zai] at hp
  split at hp
  ·rw [zap] at hp
   obtain ⟨_,p',hp',his⟩:=hx j u hu
   rw [hp] at hp';cases hp'
   exact his
  ·cases hp
 ·obtain ⟨x,g1,g2⟩:=hc off p h2
  exact ⟨x,by simp [loadVar,Sem.run_bind,h1,load,Sem.run,g1],g2⟩
theorem ypq {P:Program} (hM:MemOk W0 G I w e mem) {ty:TypeId} {p:PV} {y:CV} {v:Value} (h:ynv P mem ty p=some y) (hp:p.is e v):∃ a u,v=.pointer (some a)∧(loadVar ty a).run P w=.ok u w∧y.is e u:=by
 unfold ynv at h
 split at h
 ·rename_i i off
  split at h
  ·rename_i cells mu hn
   obtain ⟨b,o,hb,rfl⟩:=hp
   obtain ⟨b',o',he,hc⟩:=hM.holds i _ _ hb hn
   simp only [Value.pointer.injEq,Option.some.injEq,Addr.mk.injEq] at he
   obtain ⟨rfl,rfl,_⟩:=he
   obtain ⟨u,h1,h2⟩:=ydl h (fun j p hp=>by obtain ⟨x,g1,g2,_⟩:=hc j p hp;exact ⟨x,g1,g2⟩)
   exact ⟨_,u,rfl,h1,h2⟩
  ·rename_i cells mu hn
   obtain ⟨b,o,hb,rfl⟩:=hp
   obtain ⟨b',o',he,hc⟩:=hM.holds i _ _ hb hn
   simp only [Value.pointer.injEq,Option.some.injEq,Addr.mk.injEq] at he
   obtain ⟨rfl,rfl,_⟩:=he
   obtain ⟨u,h1,h2⟩:=ydl h (fun j p hp=>by obtain ⟨x,g1,g2,_⟩:=hc j p hp;exact ⟨x,g1,g2⟩)
   exact ⟨_,u,rfl,h1,h2⟩
  ·cases h
 ·rename_i i sz idx off
  split at h
  ·rename_i k mu hn
   split at h
   ·rename_i hsz
    obtain ⟨b,o,n,cap,hb,hi,rfl⟩:=hp
    obtain ⟨ao,cap',he,_,_,_,hc⟩:=hM.holds i _ _ hb hn
    simp only [Value.slice.injEq] at he
    obtain ⟨rfl,rfl,rfl⟩:=he
    have hsz:=eqb_eq.1 hsz
    have hcell:=(hc _ rfl).2 idx.toNat hi.2
    obtain ⟨u,h1,h2⟩:=ydl (b:=b) (o:=o+idx.toNat * sz) h (fun j p hp=>by
     obtain ⟨x,g1,g2⟩:=hcell j p hp
     simp only [← hsz] at g1
     exact ⟨x,by rw [Nat.add_assoc];exact g1,g2⟩)
    refine ⟨_,u,rfl,?_,h2⟩
    rw [← Nat.add_assoc];exact h1
   ·cases h
  ·cases h
 ·cases h
theorem yg5 (hM:MemOk W0 G I w e mem) {p:PV} {u:Value} (h:oneP I.one mem p=true) (hu:p.is e u):u.oneCell'=true:=by
 cases p with
 |v x=>have:u=x:=hu;rw [this];exact h
 |kI k n=>have:u=.int k n:=hu;rw [this];rfl
 |kB b=>have:u=.bool b:=hu;rw [this];rfl
 |kS s=>have:u=.string s:=hu;rw [this];rfl
 |ptr i off=>obtain ⟨b,o,_,rfl⟩:=hu;rfl
 |elt i sz idx off=>obtain ⟨b,o,n,c,_,_,rfl⟩:=hu;rfl
 |obj i=>
  have hu':e[i]? =some u:=hu
  obtain ⟨n,hn⟩:=hM.en hu'
  have hh:=hM.holds i u n hu' hn
  exact hh.oneCell
 |sub i sz lo hi=>obtain ⟨ao,n,c,_,_,_,rfl⟩:=hu;rfl
 |win i sz idx off len cap=>obtain ⟨x,b,o,_,_,rfl⟩:=hu;rfl
 |any=>cases h
theorem yf9 {y:CV} {u:Value} (h:y.is e u) (h1:∀ p x,y=.one p→p.is e x→x.oneCell'=true):AllIs e (ybp y) u.cells.toList:=by
 cases y with
 |one p=>
  have:u.cells.toList=[u]:=by
   have:=h1 p u rfl h
   cases u<;>simp_all [Value.cells,Value.oneCell']
  simp only [ybp]
  rw [this]
  exact ⟨h,trivial⟩
 |agg cs=>
  obtain ⟨us,h2,rfl⟩:=h
  simpa [ybp,Value.cells] using h2
 |fn f ca=>
  obtain ⟨us,h2,rfl⟩:=h
  exact ⟨trivial,trivial⟩
theorem yl0 {P:Program} (hM:MemOk W0 G I w e mem) {ty:TypeId} {i off:Nat} {y:CV} {u v:Value} {m':Mem β} (h:yl1 P I.one mem ty i off y=some m') (hp:(PV.ptr i off).is e v) (hy:y.is e u):
  ∃ a w',v=.pointer (some a)∧(storeVar ty a u).run P w=.ok () w'∧MemOk W0 G I w' e m':=by
 unfold yl1 at h
 split at h
 ·rename_i cells hn
  split at h
  ·cases h
  ·rename_i n hsz
   split at h
   ·rename_i hcond
    simp only [Option.some.injEq] at h
    subst h
    simp only [zbs] at hcond
    obtain ⟨hlen,hle,hone⟩:=hcond
    have hlen:=eqb_eq.1 hlen
    have hle:=leb_le.1 hle
    obtain ⟨b,o,hb,rfl⟩:=hp
    have hh:=hM.holds i _ _ hb hn
    have hh0:=hh
    obtain ⟨b',o',he,hc⟩:=hh
    simp only [Value.pointer.injEq,Option.some.injEq,Addr.mk.injEq] at he
    obtain ⟨rfl,rfl,_⟩:=he
    have hcs:=yf9 hy (fun p x hyp hx=>yg5 hM (yct hone p (by rw [hyp];exact zal ..)) hx)
    have hul:u.cells.toList.length=n:=by rw [hcs.len,hlen]
    have h1u:∀ z∈u.cells.toList,z.oneCell'=true:=fun z hz=>by
     obtain ⟨j,hj,rfl⟩:=zaz hz
     have hjc:j<(ybp y).length:=by rw [← hcs.len];exact hj
     exact yg5 hM (yct hone _ (List.getElem_mem hjc)) (hcs.get j _ _ (zaa hjc) (zaa hj))
    have hcell:∀ j,j<cells.length→∃ z,w.cell? ⟨b,o+j,none⟩=some z∧w.frozen? ⟨b,o+j,none⟩=false:=fun j hj=>by
     obtain ⟨z,g1,_,g3⟩:=hc j _ (zaa hj)
     exact ⟨z,g1,g3 rfl⟩
    have hin:∀ j,j<u.cells.toList.length→(w.cell? ⟨b,o+off+j,none⟩).isSome=true:=fun j hj=>by
     obtain ⟨z,g1,_⟩:=hcell (off+j) (by omega)
     rw [Nat.add_assoc,g1];rfl
    have hrun:=run_storeCells_cells (P:=P) b (o+off) u.cells.toList 0 w (fun j hj=>by rw [Nat.add_zero];exact hin j hj) (fun j hj=>by
      obtain ⟨z,_,g2⟩:=hcell (off+j) (by omega)
      rw [Nat.add_zero,Nat.add_assoc];exact g2) h1u
    simp only [Nat.add_zero] at hrun
    have hs:=yam _ hsz w
    have hus:u.cells.size=n:=by simpa using hul
    refine ⟨_,w.setCells b (o+off) u.cells.toList,rfl,by simp [storeVar,Sem.run_bind,hs,hus,hrun],?_⟩
    have hmod:=ycv b u.cells.toList (o+off) w
    refine hM.upd hb hn (hmod.mono fun k _ hk=>⟨b,o,rfl,hk⟩) _ ⟨b,o,rfl,fun j p hp=>?_⟩ (fun k hk=>?_)
    ·have hl1:(cells.take off).length=off:=by simp;omega
     have hin':∀ j,j<u.cells.toList.length→(w.cell? ⟨b,o+off+j,none⟩).isSome=true:=hin
     have old:∀ j',(j'<off∨off+n≤j')→(w.setCells b (o+off) u.cells.toList).cell? ⟨b,o+j',none⟩=w.cell? ⟨b,o+j',none⟩:=fun j' hj'=>
      World.cell?_setCells_out b _ (o+off) w ⟨b,o+j',none⟩ fun _ _=>by
       rcases hj' with hj'|hj'
       ·left;show o+j'<o+off;omega
       ·right;show o+off+u.cells.toList.length≤o+j';omega
     rcases zbk j off with hj|hj
     ·rw [zad (by omega),zai,if_pos hj] at hp
      obtain ⟨z,g1,g2,g3⟩:=hc j p hp
      exact ⟨z,by rw [old j (.inl hj)];exact g1,g2,fun _=>by rw [World.frozen?_setCells];exact g3 rfl⟩
     ·rw [zac (by omega),hl1] at hp
      rcases zbk (j - off) n with hjn|hjn
      ·rw [zad (by omega)] at hp
       have hx:u.cells.toList[j - off]? =some (u.cells.toList[j - off]'(by omega)):=zaa (by omega)
       refine ⟨u.cells.toList[j - off]'(by omega),?_,hcs.get _ _ _ hp hx,fun _=>?_⟩
       ·have:=World.cell?_setCells_in b u.cells.toList (o+off) w hin (j - off) (by omega)
        rw [show o+j=o+off+(j - off) by omega]
        rw [this]
       ·rw [World.frozen?_setCells]
        exact (hcell j (by omega)).elim fun _ h=>h.2
      ·rw [zac (by omega),zap,hlen] at hp
       rw [show off+n+(j - off - n)=j by omega] at hp
       obtain ⟨z,g1,g2,g3⟩:=hc j p hp
       exact ⟨z,by rw [old j (.inr (by omega))];exact g1,g2,fun _=>by rw [World.frozen?_setCells];exact g3 rfl⟩
    ·obtain ⟨b2,o2,he,rfl⟩:=hk
     simp only [Value.pointer.injEq,Option.some.injEq,Addr.mk.injEq] at he
     obtain ⟨rfl,_,_⟩:=he
     exact ⟨.inl ⟨b,o,rfl,rfl⟩,zbh (hM.lt i _ _ hb hn b ⟨b,o,rfl,rfl⟩) hmod.size⟩
   ·cases h
 ·rename_i cells hn
  split at h
  ·cases h
  ·rename_i n hsz
   split at h
   ·rename_i hcond
    simp only [Option.some.injEq] at h
    subst h
    simp only [zbs] at hcond
    obtain ⟨hlen,hle,hone⟩:=hcond
    have hlen:=eqb_eq.1 hlen
    have hle:=leb_le.1 hle
    obtain ⟨b,o,hb,rfl⟩:=hp
    have hh:=hM.holds i _ _ hb hn
    have hh0:=hh
    obtain ⟨b',o',he,hc⟩:=hh
    simp only [Value.pointer.injEq,Option.some.injEq,Addr.mk.injEq] at he
    obtain ⟨rfl,rfl,_⟩:=he
    have hcs:=yf9 hy (fun p x hyp hx=>yg5 hM (yct hone p (by rw [hyp];exact zal ..)) hx)
    have hul:u.cells.toList.length=n:=by rw [hcs.len,hlen]
    have h1u:∀ z∈u.cells.toList,z.oneCell'=true:=fun z hz=>by
     obtain ⟨j,hj,rfl⟩:=zaz hz
     have hjc:j<(ybp y).length:=by rw [← hcs.len];exact hj
     exact yg5 hM (yct hone _ (List.getElem_mem hjc)) (hcs.get j _ _ (zaa hjc) (zaa hj))
    have hcell:∀ j,j<cells.length→∃ z,w.cell? ⟨b,o+j,none⟩=some z∧w.frozen? ⟨b,o+j,none⟩=false:=fun j hj=>by
     obtain ⟨z,g1,_,g3⟩:=hc j _ (zaa hj)
     exact ⟨z,g1,g3 rfl⟩
    have hin:∀ j,j<u.cells.toList.length→(w.cell? ⟨b,o+off+j,none⟩).isSome=true:=fun j hj=>by
     obtain ⟨z,g1,_⟩:=hcell (off+j) (by omega)
     rw [Nat.add_assoc,g1];rfl
    have hrun:=run_storeCells_cells (P:=P) b (o+off) u.cells.toList 0 w (fun j hj=>by rw [Nat.add_zero];exact hin j hj) (fun j hj=>by
      obtain ⟨z,_,g2⟩:=hcell (off+j) (by omega)
      rw [Nat.add_zero,Nat.add_assoc];exact g2) h1u
    simp only [Nat.add_zero] at hrun
    have hs:=yam _ hsz w
    have hus:u.cells.size=n:=by simpa using hul
    refine ⟨_,w.setCells b (o+off) u.cells.toList,rfl,by simp [storeVar,Sem.run_bind,hs,hus,hrun],?_⟩
    have hmod:=ycv b u.cells.toList (o+off) w
    refine hM.upd hb hn (hmod.mono fun k _ hk=>⟨b,o,rfl,hk⟩) _ ⟨b,o,rfl,fun j p hp=>?_⟩ (fun k hk=>?_)
    ·have hl1:(cells.take off).length=off:=by simp;omega
     have hin':∀ j,j<u.cells.toList.length→(w.cell? ⟨b,o+off+j,none⟩).isSome=true:=hin
     have old:∀ j',(j'<off∨off+n≤j')→(w.setCells b (o+off) u.cells.toList).cell? ⟨b,o+j',none⟩=w.cell? ⟨b,o+j',none⟩:=fun j' hj'=>
      World.cell?_setCells_out b _ (o+off) w ⟨b,o+j',none⟩ fun _ _=>by
       rcases hj' with hj'|hj'
       ·left;show o+j'<o+off;omega
       ·right;show o+off+u.cells.toList.length≤o+j';omega
     rcases zbk j off with hj|hj
     ·rw [zad (by omega),zai,if_pos hj] at hp
      obtain ⟨z,g1,g2,g3⟩:=hc j p hp
      exact ⟨z,by rw [old j (.inl hj)];exact g1,g2,fun _=>by rw [World.frozen?_setCells];exact g3 rfl⟩
     ·rw [zac (by omega),hl1] at hp
      rcases zbk (j - off) n with hjn|hjn
      ·rw [zad (by omega)] at hp
       have hx:u.cells.toList[j - off]? =some (u.cells.toList[j - off]'(by omega)):=zaa (by omega)
       refine ⟨u.cells.toList[j - off]'(by omega),?_,hcs.get _ _ _ hp hx,fun _=>?_⟩
       ·have:=World.cell?_setCells_in b u.cells.toList (o+off) w hin (j - off) (by omega)
        rw [show o+j=o+off+(j - off) by omega]
        rw [this]
       ·rw [World.frozen?_setCells]
        exact (hcell j (by omega)).elim fun _ h=>h.2
      ·rw [zac (by omega),zap,hlen] at hp
       rw [show off+n+(j - off - n)=j by omega] at hp
       obtain ⟨z,g1,g2,g3⟩:=hc j p hp
       exact ⟨z,by rw [old j (.inr (by omega))];exact g1,g2,fun _=>by rw [World.frozen?_setCells];exact g3 rfl⟩
    ·obtain ⟨b2,o2,he,rfl⟩:=hk
     simp only [Value.pointer.injEq,Option.some.injEq,Addr.mk.injEq] at he
     obtain ⟨rfl,_,_⟩:=he
     exact ⟨.inl ⟨b,o,rfl,rfl⟩,zbh (hM.lt i _ _ hb hn b ⟨b,o,rfl,rfl⟩) hmod.size⟩
   ·cases h
 ·cases h
theorem yg6 (hM:MemOk W0 G I w e mem) (C:Array Value) (t:TypeId) (ps:List PV) (hp:AllIs e ps C.toList):
  MemOk W0 G I (w.alloc (.cells C t)) (e++[.pointer (some ⟨w.heap.size,0,none⟩)]) (mem++[⟨.blk ps,true⟩]):=by
 refine hM.push ((Ext.refl w).alloc _) _ _ ⟨w.heap.size,0,rfl,fun j p hj=>?_⟩ (fun k hk=>?_)
 ·have hjl:j<C.size:=by have:=hp.len;have:=(zab.1 hj).1;simp at *;omega
  have hCj:C[j]? =some C[j]:=Array.getElem?_eq_getElem hjl
  refine ⟨C[j],?_,PV.is_mono (Grows.push _ _) (hp.get j p _ hj (by simp)),fun _=>?_⟩
  ·rw [zbo,yac (ys0 w _)];exact hCj
  ·rw [zbo];exact yay (ys0 w _) j
 ·obtain ⟨b,o,he,rfl⟩:=hk
  simp only [Value.pointer.injEq,Option.some.injEq,Addr.mk.injEq] at he
  obtain ⟨rfl,_,_⟩:=he
  exact ⟨zbm _,by simp⟩
def MLe (m m':Mem β):Prop:=∀ (j:Nat) (en:En β),m[j]? =some en→en.ob≠.dead→m'[j]? =some en
def SLe (hard:β→Bool) (m m':Mem β):Prop:=∀ (j:Nat) (en:En β),m[j]? =some en→yjw hard en=true→m'[j]? =some en
theorem SLe.refl (hard:β→Bool) (m:Mem β):SLe hard m m:=fun _ _ h _=>h
theorem SLe.trans {hard:β→Bool} {a b c:Mem β} (h:SLe hard a b) (k:SLe hard b c):SLe hard a c:=fun j en hj hs=>k j en (h j en hj hs) hs
theorem SLe.mask {hard:β→Bool} {m m':Mem β} (h:SLe hard m m'):MLe (maskM hard m) m':=fun j en hj hd=>by
 simp only [maskM,zan] at hj
 cases hm:m[j]? with
 |none=>rw [hm] at hj;cases hj
 |some x=>
  rw [hm] at hj
  simp only [Option.map_some,Option.some.injEq] at hj
  cases hs:yjw hard x with
  |true=>rw [hs] at hj;simp only at hj;subst hj;exact h j x hm hs
  |false=>rw [hs] at hj;simp only at hj;subst hj;exact absurd rfl hd
def SLeX (W:List Nat) (hard:β→Bool) (m m':Mem β):Prop:=∀ (j:Nat) (en:En β),m[j]? =some en→yjw hard en=true→memL j W=false→m'[j]? =some en
theorem SLe.x {W:List Nat} {hard:β→Bool} {m m':Mem β} (h:SLe hard m m'):SLeX W hard m m':=fun j en h1 h2 _=>h j en h1 h2
theorem SLeX.refl (W:List Nat) (hard:β→Bool) (m:Mem β):SLeX W hard m m:=fun _ _ h _ _=>h
theorem SLeX.trans {W:List Nat} {hard:β→Bool} {a b c:Mem β} (h:SLeX W hard a b) (k:SLeX W hard b c):SLeX W hard a c:=fun j en hj hs hw=>k j en (h j en hj hs hw) hs hw
theorem ypp {hard:β→Bool} {W:List Nat}:∀ (m:Mem β) (i j:Nat) (en:En β),(yns hard W i m)[j]? =some en→en.ob=.dead∨(m[j]? =some en∧yjw hard en=true∧memL (i+j) W=false)
 |[],i,j,en,h=>by simp [yns] at h
 |x::m,i,0,en,h=>by
  simp only [yns,List.getElem?_cons_zero,Option.some.injEq] at h
  split at h
  ·rename_i hb
   subst h
   rw [zbs] at hb
   exact .inr ⟨rfl,hb.1,by simpa using hb.2⟩
  ·subst h;exact .inl rfl
 |x::m,i,j+1,en,h=>by
  simp only [yns,yak,zat] at h
  have:=ypp m (i+1) j en h
  rwa [show i+1+j=i+(j+1) by omega] at this
theorem SLeX.mask {W:List Nat} {hard:β→Bool} {m m':Mem β} (h:SLeX W hard m m'):MLe (yns hard W 0 m) m':=fun j en hj hd=>by
 rcases ypp m 0 j en hj with h1|⟨h1,h2,h3⟩
 ·exact absurd h1 hd
 ·exact h j en h1 h2 (by simpa using h3)
def Keep (m m':Mem β):Prop:=∀ (j:Nat) (en:En β),m[j]? =some en→m'[j]? =some en
theorem Keep.sle {m m':Mem β} (h:Keep m m') (hard:β→Bool):SLe hard m m':=fun j en hj _=>h j en hj
theorem Keep.push (m:Mem β) (x:List (En β)):Keep m (m++x):=fun j en h=>by
 rw [zad (zab.1 h).1];exact h
theorem SLe.push (hard:β→Bool) (m:Mem β) (x:List (En β)):SLe hard m (m++x):=fun j en h _=>by
 rw [zad (zab.1 h).1];exact h
theorem SLe.set {hard:β→Bool} {m:Mem β} {i:Nat} {n:En β} (hm:m[i]? =some n) (hn:yjw hard n=false) (x:En β):SLe hard m (m.set i x):=fun j en h hs=>by
 have hne:i≠j:=fun e=>by subst e;rw [hm] at h;cases h;rw [hn] at hs;cases hs
 rw [zao hne];exact h
end
def ybb (recs:List SRec) (base:List (Nat×SV)) (e:Env) (t:Nat) (u:Value):Prop:=
 match yas t recs with
 |some r=>(sat recs r.ctx=true→r.sv.is e u)∧(sat recs r.ctx=false→u=undef)
 |none=>match yab t base with
  |some x=>x.is e u
  |none=>u=undef
def OpIs (recs:List SRec) (base:List (Nat×SV)) (e:Env):Operand→Value→Prop
 |.tmp t,u=>ybb recs base e t u
 |.const v,u=>u=v
 |.global g,u=>u=.pointer (some ⟨g,0,none⟩)
 |.func f,u=>u=.func (.func f) #[] #[]
theorem inC_mem {g:Nat} {w:Bool}:∀ {c:List (Nat×Bool)},inC g w c=true→(g,w)∈c
 |[],h=>by cases h
 |(h,u)::c,hc=>by
  simp only [inC,zbt,zbs] at hc
  rcases hc with ⟨h1,h2⟩|hc
  ·rw [eqb_eq.1 h1,beqB_eq.1 h2];exact zal ..
  ·exact zak _ (inC_mem hc)
theorem yte:∀ {c d:List (Nat×Bool)},subC c d=true→∀ x∈c,x∈d
 |[],_,_,x,hx=>by cases hx
 |(g,w)::c,d,h,x,hx=>by
  simp only [subC,zbs] at h
  rcases List.mem_cons.1 hx with rfl|hx
  ·exact inC_mem h.1
  ·exact yte h.2 x hx
theorem sat_iff {recs:List SRec}:∀ {c:List (Nat×Bool)},sat recs c=true↔∀ x∈c,yef recs x.1=x.2
 |[]=>by simp [sat]
 |(g,true)::c=>by simp [sat,sat_iff (c:=c)]
 |(g,false)::c=>by simp [sat,sat_iff (c:=c)]
theorem sat_sub {recs:List SRec} {c d:List (Nat×Bool)} (h:sat recs d=true) (hs:subC c d=true):sat recs c=true:=
 sat_iff.2 fun x hx=>sat_iff.1 h x (yte hs x hx)
theorem constS_is {e:Env} (x:Value):(constS x).is e x:=by
 unfold constS
 split<;>rfl
theorem yb7 {recs:List SRec} {base:List (Nat×SV)} {e:Env} {c:List (Nat×Bool)} {x:Operand} {s:SV} {u:Value} (h:yax recs base c x=some s) (hc:sat recs c=true) (hu:OpIs recs base e x u):s.is e u:=by
 cases x with
 |tmp t=>
  simp only [yax] at h
  simp only [OpIs,ybb] at hu
  split at h
  ·rename_i r hr
   rw [hr] at hu
   split at h
   ·rename_i hs
    simp only [Option.some.injEq] at h
    subst h
    exact hu.1 (sat_sub hc hs)
   ·cases h
  ·rename_i hr
   rw [hr] at hu
   split at h
   ·rename_i y hy
    simp only [Option.some.injEq] at h
    subst h
    simpa [hy] using hu
   ·rename_i hy
    simp only [Option.some.injEq] at h
    subst h
    have hz:u=undef:=by simpa [hy] using hu
    exact hz
 |const v=>simp only [yax,Option.some.injEq] at h;subst h;have hu':u=v:=hu;rw [hu'];exact constS_is v
 |global g=>simp only [yax,Option.some.injEq] at h;subst h;exact hu
 |func f=>simp only [yax,Option.some.injEq] at h;subst h;exact ⟨[],trivial,hu⟩
theorem yg1 {e:Env} {s:Option SV} {x u:Value} (h:valS s=some x) (hs:∀ z,s=some z→z.is e u):u=x:=by
 unfold valS at h
 split at h
 ·exact valC_is h (hs _ rfl)
 ·split at h
  ·rename_i us hus
   simp only [Option.some.injEq] at h
   subst h
   obtain ⟨vs,h1,rfl⟩:=hs _ rfl
   rw [ykh hus h1]
  ·cases h
 ·cases h
theorem mkFn_is {e:Env} {f:FuncId} {fi ca:List PV} {us vs:List Value} (h1:AllIs e fi us) (h2:AllIs e ca vs) {u:Value} (hu:u=.func (.func f) us.toArray vs.toArray):(mkFn f fi ca).is e u:=by
 cases fi with
 |nil=>
  cases us with
  |nil=>exact ⟨vs,h2,hu⟩
  |cons a b=>exact h1.elim
 |cons a b=>exact ⟨us,vs,h1,h2,hu⟩
theorem fnS_is {e:Env} {s:Option SV} {f:FuncId} {fi ca:List PV} (h:fnS s=some (f,fi,ca)) {u:Value} (hs:∀ x,s=some x→x.is e u):∃ us vs,AllIs e fi us∧AllIs e ca vs∧u=.func (.func f) us.toArray vs.toArray:=by
 unfold fnS at h
 split at h
 ·simp only [Option.some.injEq,Prod.mk.injEq] at h
  obtain ⟨rfl,rfl,rfl⟩:=h
  exact hs _ rfl
 ·simp only [Option.some.injEq,Prod.mk.injEq] at h
  obtain ⟨rfl,rfl,rfl⟩:=h
  obtain ⟨vs,h1,h2⟩:=hs _ rfl
  exact ⟨[],vs,trivial,h1,h2⟩
 ·cases h
theorem yfj {s:Option SV} {x:CV} (h:cvS s=some x):s=some (.c x):=by
 unfold cvS at h
 split at h
 ·simp only [Option.some.injEq] at h;subst h;rfl
 ·cases h
theorem yc1 {s:Option SV} {x:PV} (h:pvS s=some x):s=some (.c (.one x)):=by
 unfold pvS at h
 split at h
 ·simp only [Option.some.injEq] at h;subst h;rfl
 ·cases h
theorem ypv {e:Env} {s:Option SV} {n:Int} {u:Value} (h:yt2 s=some n) (hs:∀ z,s=some z→z.is e u):∃ k,u=.int k n:=by
 unfold yt2 at h
 split at h
 ·rename_i k m
  simp only [Option.some.injEq] at h;subst h;exact ⟨k,hs _ rfl⟩
 ·rename_i k m
  simp only [Option.some.injEq] at h;subst h;exact ⟨k,hs _ rfl⟩
 ·cases h
theorem yt4 {e:Env} {s:Option SV} {n:Nat} {u:Value} (h:idxKn s=some n) (hs:∀ z,s=some z→z.is e u):∃ k,u=.int k (n:Int):=by
 unfold idxKn at h
 split at h
 ·rename_i k m
  simp only [Option.some.injEq] at h;subst h;exact ⟨k,hs _ rfl⟩
 ·cases h
theorem svB_is {e:Env} {s:SV} {b:Bool} {u:Value} (h:svB s=some b) (hs:s.is e u):u=.bool b:=by
 unfold svB at h
 split at h
 ·simp only [Option.some.injEq] at h;subst h;exact hs
 ·simp only [Option.some.injEq] at h;subst h;exact hs
 ·cases h
theorem yqh {α:Type} (x:Value) (k:SV→α):∃ s,closeV x k=k s∧∀ e,s.is e x:=by
 unfold closeV
 split
 ·exact ⟨_,forceI_eq _ _,fun e=>rfl⟩
 ·exact ⟨_,forceB_eq _ _,fun e=>rfl⟩
 ·exact ⟨_,rfl,fun e=>rfl⟩
 ·exact ⟨_,rfl,fun e=>rfl⟩
section
variable {β:Type} {S:Sy β} {I:ObI β} {W0:World} {G:Nat→Prop}
structure SyOk0 (S:Sy β) (I:ObI β) (W0:World) (G:Nat→Prop):Prop where
 mix:S.P.follows .mixedOrders=true
 one:S.one=I.one
 fns:∀ f g,yhz f S.F=some g→∀ args mem ps r mo,g args mem=some (ps,r,mo)→(∀ p∈ps,p)→
  (∀ us w,(callFunc f us).run S.P w=.ok (.enter f us) w)∧∀ w e us,MemOk W0 G I w e mem→AllC e args us→Calls S.P f us.toArray w (fun x w'=>∃ v,x=.returned v∧
   match mo with|none=>r.is e v∧Ext w w'|some m'=>∃ e',Grows e e'∧r.is e' v∧MemOk W0 G I w' e' m')
 eqs:∀ ty g,ygw ty S.E=some g→S.P.eqGuardType S.P.depth ty=false∧∀ (u v:Array Value) b,g u.toList v.toList=some b→∀ w,(Op.equal ty (.agg u) (.agg v)).run S.P w=.ok b w
 app:∀ t args mem ps r m',S.A.app t args mem=some (ps,r,some m')→(∀ p∈ps,p)→∀ ty w e us,MemOk W0 G I w e mem→AllC e args us→
  ∃ e' v w',Grows e e'∧(Builtin.append_ #[t,t] ty us.toArray).run S.P w=.ok v w'∧r.is e' v∧MemOk W0 G I w' e' m'
 ops:∀ op args mem ps r mo,S.A.ops op args mem=some (ps,r,mo)→(∀ p∈ps,p)→∀ (o:Oper) ρ w e,o.op=op→MemOk W0 G I w e mem→AllC e args (op.operands.toList.map ρ)→
  yai S.P (fun v w'=>match mo with|none=>r.is e v∧Ext w w'|some m'=>∃ e',Grows e e'∧r.is e' v∧MemOk W0 G I w' e' m') ((execOp ρ o).run S.P w)
 opm:S.A.ch=true→∀ op args m m' ps r,S.A.ops op args m=some (ps,r,none)→MLe m m'→S.A.ops op args m'=some (ps,r,none)
 fnm:S.A.ch=true→∀ f g,yhz f S.F=some g→∀ args m m' ps r,g args m=some (ps,r,none)→MLe m m'→g args m'=some (ps,r,none)
 loc:S.A.ch=true→∀ f g,yhz f S.F=some g→∀ args mem ps r m',g args mem=some (ps,r,some m')→SLe S.A.hard mem m'
 opb:S.A.ch=true→∀ t k qs args mem ps r m',allB (roC mem) args=true→S.A.ops (.buildSlice t k qs) args mem=some (ps,r,some m')→Keep mem m'
 opa:S.A.ch=true→∀ op args mem ps r m',yr9 op=true→S.A.ops op args mem=some (ps,r,some m')→Keep mem m'
 ost:S.A.ch=true→∀ t x y p v mem ps r m',noHC v=true→S.A.ops (.store t x y) [.one p,v] mem=some (ps,r,some m')→∃ i,ycd p=some i∧∀ j en,mem[j]? =some en→j≠i→m'[j]? =some en
 apl:S.A.ch=true→∀ t u v mem ps r m',S.A.app t [u,v] mem=some (ps,r,some m')→∀ j en,mem[j]? =some en→(∀ p,u=.one p→ycd p≠some j)→m'[j]? =some en
structure SyOk (S:Sy β) (I:ObI β) (W0:World) (G:Nat→Prop):Prop extends SyOk0 S I W0 G where
 re:S.A.ch=true→∀ W1 G1,SyOk0 S I W1 G1
theorem SyOk.at_ {S:Sy β} {I:ObI β} {W0:World} {G:Nat→Prop} (h:SyOk S I W0 G) (hc:S.A.ch=true) (W1:World) (G1:Nat→Prop):SyOk S I W1 G1:=⟨h.re hc W1 G1,h.re⟩
variable {w:World} {recs:List SRec} {base:List (Nat×SV)} {e:Env} {mem:Mem β} {c:List (Nat×Bool)} {eff:Bool} {o:Oper} {ρ:Operand→Value} {sv:SV} {ps:List Prop} {mo:Option (Mem β)}
theorem yav {x:SV} {r:SV×Option (Mem β)×List Prop} (h:(retS x:OpR β)=some r):r=(x,none,[]):=by
 simp only [retS,Option.some.injEq] at h;exact h.symm
theorem yo8 {r:SV×Option (Mem β)×List Prop} {P:Program} (h:yea P (yax recs base c) o=some r) (hs:∀ cs b,o.op≠.select cs b) (hc:sat recs c=true) (hρ:∀ x∈o.op.operands,OpIs recs base e x (ρ x)):
  ∃ v s,r=(s,none,[])∧s.is e v∧(execOp ρ o).run P w=.ok (.value v) w:=by
 unfold yea at h
 split at h
 ·rename_i hall
  split at h
  ·rename_i v hv
   have hrun:(execOp ρ o).run P w=.ok (.value v) w:=by
    rw [execOp_congr (ρ':=fun x=>(valS (yax recs base c x)).getD undef) o hs fun x hx=>?_]
    ·exact yam _ hv w
    ·have h1:=yct hall x (by simpa using hx)
     obtain ⟨y,hy⟩:=Option.isSome_iff_exists.1 h1
     rw [hy]
     exact yg1 hy fun z hz=>yb7 hz hc (hρ x hx)
   split at h
   ·obtain ⟨s,h1,h2⟩:=yqh v (fun s=>(retS s:OpR β))
    rw [h1] at h
    exact ⟨v,s,yav h,h2 e,hrun⟩
   ·exact ⟨v,svV v,yav h,rfl,hrun⟩
  ·cases h
 ·cases h
theorem yul {s:Option SV} {x:CV} (h:cvO S mem s=some x):s=some (.c x)∧okC S mem x=true:=by
 unfold cvO at h
 split at h
 ·rename_i y hy
  split at h
  ·rename_i hok
   simp only [Option.some.injEq] at h
   subst h
   exact ⟨yfj hy,hok⟩
  ·cases h
 ·cases h
theorem pvs_of (hc:sat recs c=true):∀ {xs:List Operand} {ys:List PV},mapO (fun x=>pvS (yax recs base c x)) xs=some ys→(∀ x∈xs,OpIs recs base e x (ρ x))→AllIs e ys (xs.map ρ)
 |[],ys,h,_=>by simp only [mapO,Option.some.injEq] at h;subst h;trivial
 |x::xs,ys,h,hx=>by
  simp only [mapO] at h
  split at h
  ·cases h
  ·rename_i y hy
   split at h
   ·cases h
   ·rename_i zs hzs
    simp only [Option.some.injEq] at h
    subst h
    exact ⟨yb7 (yc1 hy) hc (hx x (zal ..)),pvs_of hc hzs fun z hz=>hx z (zak _ hz)⟩
theorem yuk (hc:sat recs c=true):∀ {xs:List Operand} {ys:List CV},mapO (fun x=>cvS (yax recs base c x)) xs=some ys→(∀ x∈xs,OpIs recs base e x (ρ x))→AllC e ys (xs.map ρ)
 |[],ys,h,_=>by simp only [mapO,Option.some.injEq] at h;subst h;trivial
 |x::xs,ys,h,hx=>by
  simp only [mapO] at h
  split at h
  ·cases h
  ·rename_i y hy
   split at h
   ·cases h
   ·rename_i zs hzs
    simp only [Option.some.injEq] at h
    subst h
    exact ⟨yb7 (yfj hy) hc (hx x (zal ..)),yuk hc hzs fun z hz=>hx z (zak _ hz)⟩
theorem ynt (a:Array Operand):a.map ρ=(a.toList.map ρ).toArray:=by rw [← Array.toList_map,zbq]
theorem ycc (t:Nat) {r:SRec}:∀ {l:List SRec},yas t l=some r→r∈l∧r.dst=some t
 |[],h=>by cases h
 |x::l,h=>by
  simp only [yas] at h
  split at h
  ·rename_i hd
   simp only [Option.some.injEq] at h
   subst h
   refine ⟨zal ..,?_⟩
   unfold ylt at hd
   split at hd
   ·cases hd
   ·rename_i u hu;rw [hu,eqb_eq.1 hd]
  ·obtain ⟨h1,h2⟩:=ycc t h
   exact ⟨zak _ h1,h2⟩
theorem ygi:∀ {l:List SRec},l.Pairwise (fun a b=>b.ix<a.ix)→∀ r∈l,yj4 r.ix l=some r
 |[],_,r,h=>by cases h
 |x::l,hp,r,h=>by
  simp only [yj4]
  rcases List.mem_cons.1 h with rfl|h
  ·rw [eqb_eq.2 rfl]
  ·have hlt:=(List.pairwise_cons.1 hp).1 r h
   rw [ymk (by omega)]
   exact ygi (List.pairwise_cons.1 hp).2 r h
theorem ylb {l:List SRec} (hp:l.Pairwise (fun a b=>b.ix<a.ix)) {r:SRec} (hr:r∈l) {b:Bool} (hb:svB r.sv=some b):yef l r.ix=b:=by
 unfold yef
 rw [ygi hp r hr]
 simp only [hb]
theorem ysz {l:List SRec} {r:SRec} {g:Nat} (h:r.ix≠g):yef (r::l) g=yef l g:=by
 unfold yef
 simp only [yj4,ymk h]
theorem yhk {l:List SRec} {r:SRec} {c:List (Nat×Bool)} (h:∀ x∈c,x.1<r.ix):sat (r::l) c=sat l c:=by
 have:sat (r::l) c=true↔sat l c=true:=by
  rw [sat_iff,sat_iff]
  refine forall_congr' fun x=>forall_congr' fun hx=>?_
  rw [ysz (by have:=h x hx;omega)]
 cases h1:sat (r::l) c<;>cases h2:sat l c<;>simp_all
theorem ypb {P:Program} {ty:TypeId} {cells:List PV} {off:Nat} {y:CV} (h:yfr P ty cells off=some y) {us:List Value} (hu:AllIs e cells us):∃ u,(part ty us.toArray off).run P w=.ok u w∧y.is e u:=by
 have hl:=hu.len
 rcases ypc (w:=w) h with ⟨n,h1,h2,h3,rfl⟩|⟨p,h1,h2,rfl⟩
 ·refine ⟨.agg (us.toArray.extract off (off+n)),by simp [part,Sem.run_bind,h1,h2],(us.drop off).take n,AllIs.mk (by simp;omega) fun j p u hp hv=>?_,?_⟩
  ·rw [zai] at hp hv
   split at hp
   ·rename_i hj
    rw [if_pos hj,zap] at hv
    rw [zap] at hp
    exact hu.get _ _ _ hp hv
   ·cases hp
  ·simp
 ·have hlt:off<us.length:=by rw [hl];exact (zab.1 h2).1
  have hv:us[off]? =some us[off]:=zaa hlt
  refine ⟨us[off],?_,hu.get _ _ _ h2 hv⟩
  simp [part,Sem.run_bind,h1,hv]
theorem yuc {P:Program} {s f d:Nat} (h:yan P (fOff s f)=some d) (a:Addr) (w:World):(Instr.fieldAt s (.pointer (some a)) f).run P w=.ok (.pointer (some (a.add d))) w:=by
 have hr:=yam _ h w
 unfold fOff at hr
 unfold Instr.fieldAt
 rw [Sem.run_bind] at hr ⊢
 cases hu:(underlying s).run P w with
 |halt x w'=>rw [hu] at hr;simp at hr
 |ok dsc w'=>
  rw [hu] at hr
  simp only [Result.andThen_ok] at hr ⊢
  cases dsc<;>try (simp [stuck,Sem.run] at hr;done)
  rename_i fields
  simp only at hr ⊢
  cases hf:fields[f]? with
  |none=>rw [hf] at hr;simp [stuck,Sem.run] at hr
  |some fl=>
   rw [hf] at hr
   simp only at hr ⊢
   simp only [Instr.sureAddr,fieldPlace]
   rw [Sem.run_bind] at hr
   simp only [Sem.run_bind,Sem.run_pure,Result.andThen_ok]
   cases hz:(sizeOf fl.type).run P w' with
   |halt x w''=>rw [hz] at hr;simp at hr
   |ok n w''=>
    rw [hz] at hr
    simp only [Result.andThen_ok] at hr ⊢
    split at hr
    ·simp [stuck,Sem.run] at hr
    ·rename_i hne
     rw [if_neg hne]
     simp only [Sem.run_pure,Result.ok.injEq] at hr
     obtain ⟨rfl,rfl⟩:=hr
     simp [Sem.run_pure,Sem.run_bind]
theorem fTy_run {P:Program} {s f t d:Nat} (h:yan P (fTy s f)=some (t,d)) (cs:Array Value) (w:World):(Instr.field s (.agg cs) f).run P w=(part t cs d).run P w:=by
 have hr:=yam _ h w
 unfold fTy at hr
 unfold Instr.field
 rw [Sem.run_bind] at hr ⊢
 cases hu:(underlying s).run P w with
 |halt x w'=>rw [hu] at hr;simp at hr
 |ok dsc w'=>
  rw [hu] at hr
  simp only [Result.andThen_ok] at hr ⊢
  cases dsc<;>try (simp [stuck,Sem.run] at hr;done)
  rename_i fields
  simp only at hr ⊢
  cases hf:fields[f]? with
  |none=>rw [hf] at hr;simp [stuck,Sem.run] at hr
  |some fl=>
   rw [hf] at hr
   simp only [Sem.run_pure,Result.ok.injEq,Prod.mk.injEq] at hr
   obtain ⟨⟨rfl,rfl⟩,rfl⟩:=hr
   simp [asAgg,Sem.run_bind,Sem.run_pure]
theorem putCs_is:∀ {xs:List PV} {us:List Value} (off:Nat) {cs:List PV} {vs:Array Value},AllIs e xs us→AllIs e cs vs.toList→
  AllIs e (putCs xs off cs) ((us.zipIdx).foldl (fun a (c:Value×Nat)=>a.setIfInBounds (off+c.2) c.1) vs).toList:=by
 have gen:∀ (xs:List PV) (us:List Value) (k off:Nat) (cs:List PV) (vs:Array Value),AllIs e xs us→AllIs e cs vs.toList→
   AllIs e (putCs xs (off+k) cs) ((us.zipIdx k).foldl (fun a (c:Value×Nat)=>a.setIfInBounds (off+c.2) c.1) vs).toList:=by
  intro xs
  induction xs with
  |nil=>intro us k off cs vs h1 h2;cases us with|nil=>exact h2|cons _ _=>exact h1.elim
  |cons x xs ih=>
   intro us k off cs vs h1 h2
   cases us with
   |nil=>exact h1.elim
   |cons u us=>
    obtain ⟨hx,hxs⟩:=h1
    simp only [putCs,List.zipIdx_cons,List.foldl_cons]
    have:=ih us (k+1) off (cs.set (off+k) x) (vs.setIfInBounds (off+k) u) hxs (AllIs.mk (by simp;exact h2.len) fun j p v hp hv=>?_)
    ·rw [show off+k+1=off+(k+1) by omega];exact this
    ·rw [Array.toList_setIfInBounds] at hv
     by_cases hj:j=off+k
     ·subst hj
      have hl:off+k<cs.length:=by have:=(zab.1 hp).1;simpa using this
      rw [zar hl] at hp
      rw [zar (by rw [h2.len];exact hl)] at hv
      cases hp;cases hv;exact hx
     ·rw [zao (fun e=>hj e.symm)] at hp hv
      exact h2.get _ _ _ hp hv
 intro xs us off cs vs h1 h2
 exact gen xs us 0 off cs vs h1 h2
theorem yua {place:Nat→Option (Nat×Nat)}:∀ {ps:List (Nat×CV)} {us:List (Nat×Value)} {cells:List PV} {vs:Array Value} {r:List PV},fillS place cells ps=some r→AllIs e cells vs.toList→
  (us.length=ps.length∧∀ (j:Nat) (p:Nat×CV) (u:Nat×Value),ps[j]? =some p→us[j]? =some u→p.1=u.1∧AllIs e (ybp p.2) u.2.cells.toList)→∃ vs',Instr.fill place vs us=some vs'∧AllIs e r vs'.toList
 |[],[],cells,vs,r,h,hv,_=>by simp only [fillS,Option.some.injEq] at h;subst h;exact ⟨vs,rfl,hv⟩
 |p::ps,u::us,cells,vs,r,h,hv,hu=>by
  obtain ⟨i,x⟩:=p
  obtain ⟨i',y⟩:=u
  simp only [fillS] at h
  obtain ⟨h1,h2⟩:=hu.2 0 (i,x) (i',y) rfl rfl
  simp only at h1
  subst h1
  have hl:y.cells.toList.length=(ybp x).length:=h2.len
  split at h
  ·cases h
  ·rename_i off size hpl
   split at h
   ·rename_i hcond
    rw [zbs] at hcond
    have c1:(ybp x).length=size:=eqb_eq.1 hcond.1
    have c2:off+(ybp x).length≤cells.length:=leb_le.1 hcond.2
    have hvl:vs.toList.length=cells.length:=hv.len
    have hsz:y.cells.size=size:=by rw [← c1,←hl];simp
    have:=putCs_is (e:=e) off h2 hv
    obtain ⟨vs',h3,h4⟩:=yua h this ⟨by have:=hu.1;simpa using this,fun j p u hp hu'=>hu.2 (j+1) p u (by simpa using hp) (by simpa using hu')⟩
    refine ⟨vs',?_,h4⟩
    rw [Instr.fill,hpl]
    simp only
    rw [if_neg (by
     simp only [Array.length_toList] at hvl hl
     simp only [zbt,decide_eq_true_eq]
     omega)]
    rw [← h3]
    congr 1
    rw [← Array.foldl_toList]
    simp
   ·cases h
 |[],_::_,_,_,_,_,_,hu=>by simp at hu
 |_::_,[],_,_,_,_,_,hu=>by simp at hu
theorem yqp {P:Program} {t len elem sz:Nat} (h:yan P (aElem t)=some (len,elem,sz)) (w:World):(underlying t).run P w=.ok (.array len elem) w∧(sizeOf elem).run P w=.ok sz w:=by
 have hr:=yam _ h w
 unfold aElem at hr
 rw [Sem.run_bind] at hr
 cases hq:P.underlying t with
 |none=>
  simp [underlying,program,Sem.run_bind,Sem.run,hq,stuck] at hr
 |some d=>
  have hd:(underlying t).run P w=.ok d w:=by simp [underlying,program,Sem.run_bind,Sem.run,hq]
  rw [hd] at hr
  simp only [Result.andThen_ok] at hr
  cases d<;>try (simp [stuck,Sem.run] at hr;done)
  rename_i len' elem'
  simp only [Sem.run_bind] at hr
  cases hz:(sizeOf elem').run P w with
  |halt x w'=>rw [hz] at hr;simp at hr
  |ok n w'=>
   rw [hz] at hr
   simp only [Result.andThen_ok,Sem.run_pure,Result.ok.injEq,Prod.mk.injEq] at hr
   obtain ⟨⟨rfl,rfl,rfl⟩,rfl⟩:=hr
   exact ⟨hd,hz⟩
theorem yfv {P:Program} {t sz:Nat} (h:yan P (yrn t)=some sz) (w:World):∃ elem,(underlying t).run P w=.ok (.slice elem) w∧(sizeOf elem).run P w=.ok sz w:=by
 have hr:=yam _ h w
 unfold yrn at hr
 rw [Sem.run_bind] at hr
 cases hq:P.underlying t with
 |none=>
  simp [underlying,program,Sem.run_bind,Sem.run,hq,stuck] at hr
 |some d=>
  have hd:(underlying t).run P w=.ok d w:=by simp [underlying,program,Sem.run_bind,Sem.run,hq]
  rw [hd] at hr
  simp only [Result.andThen_ok] at hr
  cases d<;>try (simp [stuck,Sem.run] at hr;done)
  rename_i elem
  exact ⟨elem,hd,hr⟩
theorem isStr_run {P:Program} {t:Nat} (h:yan P (isStr t)=some true) (w:World):(underlying t).run P w=.ok .string w:=by
 have hr:=yam _ h w
 unfold isStr at hr
 rw [Sem.run_bind] at hr
 cases hq:P.underlying t with
 |none=>
  simp [underlying,program,Sem.run_bind,Sem.run,hq,stuck] at hr
 |some d=>
  have hd:(underlying t).run P w=.ok d w:=by simp [underlying,program,Sem.run_bind,Sem.run,hq]
  rw [hd] at hr
  simp only [Result.andThen_ok] at hr
  cases d<;>first|exact hd|(simp [Sem.run_pure] at hr;done)
theorem ylf {P:Program} {t:Nat} {pl:Array (Nat×Nat)×Option Nat} (h:yan P (yof t)=some pl) (w:World):
  (∃ fields arr,pl=(arr,none)∧(underlying t).run P w=.ok (.struct fields) w∧(fields.mapM fun f=>do pure (f.offset,←sizeOf f.type):Sem (Array (Nat×Nat))).run P w=.ok arr w)∨
  ∃ len elem n,pl=(#[],some n)∧(underlying t).run P w=.ok (.array len elem) w∧(sizeOf elem).run P w=.ok n w:=by
 have hr:=yam _ h w
 unfold yof at hr
 rw [Sem.run_bind] at hr
 cases hq:P.underlying t with
 |none=>
  simp [underlying,program,Sem.run_bind,Sem.run,hq,stuck] at hr
 |some d=>
  have hd:(underlying t).run P w=.ok d w:=by simp [underlying,program,Sem.run_bind,Sem.run,hq]
  rw [hd] at hr
  simp only [Result.andThen_ok] at hr
  cases d<;>try (simp [stuck,Sem.run] at hr;done)
  ·rename_i len elem
   right
   simp only [Sem.run_bind] at hr
   cases hz:(sizeOf elem).run P w with
   |halt x w'=>rw [hz] at hr;simp at hr
   |ok n w'=>
    rw [hz] at hr
    simp only [Result.andThen_ok,Sem.run_pure,Result.ok.injEq] at hr
    obtain ⟨rfl,rfl⟩:=hr
    exact ⟨len,elem,n,rfl,hd,hz⟩
  ·rename_i fields
   left
   rw [Sem.run_bind] at hr
   cases hz:(fields.mapM fun f=>do pure (f.offset,←sizeOf f.type):Sem (Array (Nat×Nat))).run P w with
   |halt x w'=>rw [hz] at hr;simp at hr
   |ok n w'=>
    rw [hz] at hr
    simp only [Result.andThen_ok,Sem.run_pure,Result.ok.injEq] at hr
    obtain ⟨rfl,rfl⟩:=hr
    exact ⟨fields,n,rfl,hd,hz⟩
theorem ymd {op:Op} {mo:Option (Mem β)} (hS:SyOk S I W0 G) (hM:MemOk W0 G I w e mem) (hc:sat recs c=true) (hρ:∀ x∈o.op.operands,OpIs recs base e x (ρ x)) (hop:o.op=op)
  (h:ycf S (yax recs base c) mem c eff op=some (sv,mo,ps)) (hps:∀ p∈ps,p):
  yai S.P (fun v w'=>match mo with|none=>sv.is e v∧Ext w w'|some m'=>∃ e',Grows e e'∧sv.is e' v∧MemOk W0 G I w' e' m') ((execOp ρ o).run S.P w)∧(mo.isSome=true→eff=true∧c=[]):=by
 unfold ycf at h
 split at h
 ·rename_i us hus
  have hv:=yuk (ρ:=ρ) (e:=e) hc hus (fun x hx=>hρ x (by rw [hop];exact Array.mem_toList_iff.1 hx))
  split at h
  ·rename_i qs r hg
   simp only [Option.some.injEq,Prod.mk.injEq] at h
   obtain ⟨rfl,rfl,rfl⟩:=h
   exact ⟨hS.ops op us mem qs r none hg hps o ρ w e hop hM hv,fun h=>by cases h⟩
  ·rename_i qs r m2 hg
   split at h
   ·simp only [Option.some.injEq,Prod.mk.injEq] at h
    obtain ⟨rfl,rfl,rfl⟩:=h
    exact ⟨hS.ops op us mem qs r _ hg hps o ρ w e hop hM hv,fun _=>⟨rfl,rfl⟩⟩
   ·cases h
  ·cases h
 ·cases h
theorem yid (h:yfm S (yax recs base c) mem c eff o=some (sv,mo,ps)):(yea S.P (yax recs base c) o:OpR β)=some (sv,mo,ps)∨ycf S (yax recs base c) mem c eff o.op=some (sv,mo,ps):=by
 unfold yfm at h
 split at h
 ·rename_i r hr;exact .inl (hr.trans h)
 ·exact .inr h
theorem ydg {x:OpR β} {r:SV×Option (Mem β)×List Prop} (h:yse x=some r):x=some r∧∃ i k m ps,r=(.c (.one (.ptr i k)),some m,ps):=by
 unfold yse at h
 split at h
 ·simp only [Option.some.injEq] at h;subst h;exact ⟨rfl,_,_,_,_,rfl⟩
 ·cases h
theorem ydf {x:OpR β} {r:SV×Option (Mem β)×List Prop} (h:hookSt x=some r):x=some r∧∃ s m ps,r=(s,some m,ps):=by
 unfold hookSt at h
 split at h
 ·simp only [Option.some.injEq] at h;subst h;exact ⟨rfl,_,_,_,rfl⟩
 ·cases h
theorem yky (hS:SyOk S I W0 G) (hM:MemOk W0 G I w e mem) (hp:recs.Pairwise (fun a b=>b.ix<a.ix)) (hc:sat recs c=true) (hρ:∀ x∈o.op.operands,OpIs recs base e x (ρ x))
  (h:yb5 S recs base mem c eff o=some (sv,none,ps)) (hps:∀ p∈ps,p):yai S.P (fun v w'=>Ext w w'∧sv.is e v) ((execOp ρ o).run S.P w):=by
 have hpure:∀ (hs:∀ cs b,o.op≠.select cs b),yea S.P (yax recs base c) o=some (sv,(none:Option (Mem β)),ps)→yai S.P (fun v w'=>Ext w w'∧sv.is e v) ((execOp ρ o).run S.P w):=fun hs hh=>by
  obtain ⟨v,s,hv,his,hr⟩:=yo8 (w:=w) (ρ:=ρ) (e:=e) hh hs hc hρ
  rw [hr]
  simp only [Prod.mk.injEq] at hv
  obtain ⟨rfl,_⟩:=hv
  exact ⟨Ext.refl w,his⟩
 have hhook:∀ {op:Op},o.op=op→ycf S (yax recs base c) mem c eff op=some (sv,none,ps)→yai S.P (fun v w'=>Ext w w'∧sv.is e v) ((execOp ρ o).run S.P w):=fun hop hh=>
  ybd (fun v w' hv=>⟨hv.2,hv.1⟩) (ymd hS hM hc hρ hop hh hps).1
 have hpureOr:∀ (hs:∀ cs b,o.op≠.select cs b),yfm S (yax recs base c) mem c eff o=some (sv,none,ps)→yai S.P (fun v w'=>Ext w w'∧sv.is e v) ((execOp ρ o).run S.P w):=fun hs hh=>by
  rcases yid hh with h1|h1
  ·exact hpure hs h1
  ·exact hhook rfl h1
 have hret:∀ (s:SV) (v:Value),(retS s:OpR β)=some (sv,none,ps)→(execOp ρ o).run S.P w=.ok (.value v) w→s.is e v→yai S.P (fun v w'=>Ext w w'∧sv.is e v) ((execOp ρ o).run S.P w):=fun s v hh hr his=>by
  have:=yav hh
  simp only [Prod.mk.injEq] at this
  obtain ⟨rfl,-⟩:=this
  rw [hr];exact ⟨Ext.refl w,his⟩
 have hlk:∀ {x:Operand} {s:SV},x∈o.op.operands→yax recs base c x=some s→s.is e (ρ x):=fun hx hs=>yb7 hs hc (hρ _ hx)
 unfold yb5 at h
 split at h
 -- move
 ·rename_i x hop
  split at h
  ·rename_i s hs
   exact hret s (ρ x) h (by unfold execOp;rw [hop];rfl) (hlk (by rw [hop];simp [Op.operands]) hs)
  ·cases h
 ·rename_i x hop
  split at h
  ·rename_i s hs
   exact hret s (ρ x) h (by unfold execOp;rw [hop];rfl) (hlk (by rw [hop];simp [Op.operands]) hs)
  ·cases h
 -- pick
 ·rename_i t a b hop
  split at h
  ·cases h
  ·rename_i r hr
   obtain ⟨hrm,hrd⟩:=ycc t hr
   have hρa:=hρ a (by rw [hop];simp [Op.operands])
   have hρb:=hρ b (by rw [hop];simp [Op.operands])
   have ht:∀ q,subC r.ctx c=true→svB r.sv=some q→ρ (.tmp t)=.bool q∧yef recs r.ix=q:=fun q hsub hsv=>by
    have h1:=hρ (.tmp t) (by rw [hop];simp [Op.operands])
    simp only [OpIs,ybb,hr] at h1
    exact ⟨svB_is hsv (h1.1 (sat_sub hc hsub)),ylb hp hrm hsv⟩
   have hrun:∀ q,ρ (.tmp t)=.bool q→(execOp ρ o).run S.P w=.ok (.value (if q=true then ρ a else ρ b)) w:=fun q hq=>by
    unfold execOp
    simp only [hop,hq,asBool,Sem.run_bind,Sem.run_pure,Result.andThen_ok]
   split at h
   ·rename_i hsub hsv
    obtain ⟨h1,h2⟩:=ht true hsub (by rw [hsv];rfl)
    split at h
    ·rename_i s hs
     exact hret s _ h (hrun true h1) (yb7 (c:=(r.ix,true)::c) hs (by simp [sat,h2,hc]) hρa)
    ·cases h
   ·rename_i hsub hsv
    obtain ⟨h1,h2⟩:=ht false hsub (by rw [hsv];rfl)
    split at h
    ·rename_i s hs
     exact hret s _ h (hrun false h1) (by simpa using yb7 (c:=(r.ix,false)::c) hs (by simp [sat,h2,hc]) hρb)
    ·cases h
   ·rename_i q hsub hsv
    obtain ⟨h1,h2⟩:=ht q hsub (by rw [hsv];rfl)
    split at h
    ·rename_i x y hx hy
     have hax:q=true→ρ a=.bool x:=fun hqt=>yg1 hx fun z hz=>yb7 (c:=(r.ix,true)::c) hz (by simp [sat,h2,hqt,hc]) hρa
     have hby:q=false→ρ b=.bool y:=fun hqt=>yg1 hy fun z hz=>yb7 (c:=(r.ix,false)::c) hz (by simp [sat,h2,hqt,hc]) hρb
     have hres:(execOp ρ o).run S.P w=.ok (.value (.bool (cond q x y))) w:=by
      rw [hrun q h1]
      cases hqq:q with
      |true=>simp [hax hqq]
      |false=>simp [hby hqq]
     split at h
     ·have hx1:some (Value.bool x)=some (Value.bool true):=hx.symm.trans rfl
      simp only [Option.some.injEq,Value.bool.injEq] at hx1
      subst hx1
      refine hret _ _ h hres ?_
      show Value.bool (cond q true y)=Value.bool (q||y)
      cases q<;>rfl
     ·have hy1:some (Value.bool y)=some (Value.bool false):=hy.symm.trans rfl
      simp only [Option.some.injEq,Value.bool.injEq] at hy1
      subst hy1
      refine hret _ _ h hres ?_
      show Value.bool (cond q x false)=Value.bool (q&&x)
      cases q<;>rfl
     ·exact hret _ _ h hres rfl
    ·cases h
   ·cases h
 -- load
 ·rename_i ty x hop
  split at h
  ·exact hhook rfl h
  ·split at h
   ·rename_i p hpx
    split at h
    ·rename_i y hy
     obtain ⟨a,u,h1,h2,h3⟩:=ypq hM hy (hlk (by rw [hop];simp [Op.operands]) (yc1 hpx))
     refine hret _ u h ?_ h3
     unfold execOp
     simp only [hop,h1,Instr.loadAt,Instr.sureAddr,Sem.run_bind,Sem.run_pure,Result.andThen_ok,h2]
    ·cases h
   ·cases h
 -- store
 ·split at h
  ·obtain ⟨_,_,_,_,h2⟩:=ydf h
   simp at h2
  ·split at h
   ·split at h<;>simp at h
   ·cases h
 -- box
 ·split at h
  ·simp at h
  ·cases h
 -- alloc
 ·split at h
  ·obtain ⟨_,_,_,_,_,h2⟩:=ydg h
   simp at h2
  ·split at h
   ·simp at h
   ·cases h
 -- fieldAddr
 ·rename_i s x f hop
  split at h
  ·rename_i i off d hs hd
   rw [yak] at h
   obtain ⟨b,o',hb,hx⟩:=hlk (by rw [hop];simp [Op.operands]) (yc1 hs)
   refine hret _ _ h ?_ ⟨b,o',hb,rfl⟩
   have hr:=yuc hd ⟨b,o'+off,none⟩ w
   unfold execOp
   simp only [hop,hx,Sem.run_bind,hr,Sem.run_pure,Result.andThen_ok]
   rw [Addr.add_mid,Nat.add_assoc]
  ·rename_i i sz idx off d hs hd
   rw [yak] at h
   obtain ⟨b,o',n,cap,hb,hi,hx⟩:=hlk (by rw [hop];simp [Op.operands]) (yc1 hs)
   refine hret _ _ h ?_ ⟨b,o',n,cap,hb,hi,rfl⟩
   have hr:=yuc hd ⟨b,o'+(idx.toNat * sz+off),none⟩ w
   unfold execOp
   simp only [hop,hx,Sem.run_bind,hr,Sem.run_pure,Result.andThen_ok]
   rw [Addr.add_mid,Nat.add_assoc,Nat.add_assoc]
  ·cases h
 -- nilCheck
 ·rename_i x hop
  split at h
  ·rename_i i off hs
   obtain ⟨b,o',hb,hx⟩:=hlk (by rw [hop];simp [Op.operands]) (yc1 hs)
   refine hret _ _ h ?_ ⟨b,o',hb,rfl⟩
   unfold execOp
   simp only [hop,hx,Sem.run_pure]
  ·rename_i i sz idx off hs
   obtain ⟨b,o',n,cap,hb,hi,hx⟩:=hlk (by rw [hop];simp [Op.operands]) (yc1 hs)
   refine hret _ _ h ?_ ⟨b,o',n,cap,hb,hi,rfl⟩
   unfold execOp
   simp only [hop,hx,Sem.run_pure]
  ·exact hhook rfl h
 -- makeFunc
 ·rename_i f fi ca hop
  split at h
  ·rename_i us vs hus hvs
   have h1:=pvs_of (ρ:=ρ) (e:=e) hc hus (fun x hx=>hρ x (by rw [hop];simp [Op.operands,Array.mem_toList_iff.1 hx]))
   have h2:=pvs_of (ρ:=ρ) (e:=e) hc hvs (fun x hx=>hρ x (by rw [hop];simp [Op.operands,Array.mem_toList_iff.1 hx]))
   refine hret _ _ h ?_ (mkFn_is h1 h2 rfl)
   unfold execOp
   simp only [hop,Instr.makeFunc,Sem.run_bind,Sem.run_pure,Result.andThen_ok]
   rw [ynt fi,ynt ca]
  ·cases h
 -- field
 ·rename_i ty x f hop
  split at h
  ·rename_i cs t off hcs ht
   split at h
   ·rename_i y hy
    obtain ⟨us,h1,hx⟩:=hlk (by rw [hop];simp [Op.operands]) (yfj hcs)
    obtain ⟨u,h2,h3⟩:=ypb (w:=w) hy h1
    refine hret _ u h ?_ h3
    unfold execOp
    simp only [hop,hx,Sem.run_bind,Sem.run_pure,fTy_run ht,h2,Result.andThen_ok]
   ·cases h
  ·cases h
 -- build
 ·rename_i ty pts hop
  split at h
  rotate_left
  ·exact hhook rfl h
  rename_i r0 hb0
  simp only [Option.some.injEq] at h
  subst h
  have h:=hb0
  unfold yla at h
  split at h
  ·rename_i pl z parts hpl hz hparts
   split at h
   ·rename_i cs hcs
    have hz':=yam _ hz w
    obtain ⟨q1,q2⟩:=yjj hparts
    obtain ⟨vs',k3,k4⟩:=yua (e:=e) (us:=(pts.map fun (i,x)=>(i,ρ x)).toList) (vs:=z.cells) hcs (by simpa using yli e z.cells.toList) ⟨by simp [q1],fun j p u hp hu=>by
     rw [Array.toList_map,zan] at hu
     cases hj:pts.toList[j]? with
     |none=>rw [hj] at hu;cases hu
     |some a=>
      rw [hj] at hu
      simp only [Option.map_some,Option.some.injEq] at hu
      obtain ⟨y,hy1,hy2⟩:=q2 j a hj
      rw [hp] at hy1
      cases hy1
      split at hy2
      ·rename_i y' hy'
       simp only [Option.some.injEq] at hy2
       subst hy2
       subst hu
       refine ⟨rfl,?_⟩
       have hmem:a.2∈o.op.operands:=by
        rw [hop]
        simp only [Op.operands,List.mem_toArray,List.mem_map]
        exact ⟨a,List.mem_of_getElem? hj,rfl⟩
       obtain ⟨hy1,hok⟩:=yul hy'
       exact yf9 (hlk hmem hy1) fun p x hyp hx=>by
        subst hyp
        exact yg5 hM (hS.one▸hok) hx
      ·cases hy2⟩
    refine hret _ (.agg vs') h ?_ ⟨vs'.toList,k4,by simp⟩
    unfold execOp
    rcases ylf hpl w with ⟨fields,arr,rfl,k1,k2⟩|⟨len,elem,n,rfl,k1,k2⟩
    ·simp only [yr0] at k3
     simp only [hop,Instr.build,Sem.run_bind,hz',k1,k2,Result.andThen_ok,Sem.run_pure]
     rw [k3]
     simp [Sem.run_pure]
    ·simp only [yr0] at k3
     simp only [hop,Instr.build,Sem.run_bind,hz',k1,k2,Result.andThen_ok,Sem.run_pure]
     rw [k3]
     simp [Sem.run_pure]
   ·cases h
  ·cases h
 -- extract
 ·rename_i x i hop
  split at h
  ·rename_i xs hxs
   split at h
   ·rename_i y hy
    obtain ⟨us,h1,hx⟩:=hlk (by rw [hop];simp [Op.operands]) hxs
    have hl:=h1.len
    have hi:i<us.length:=by rw [hl];exact (zab.1 hy).1
    have hu:us[i]? =some us[i]:=zaa hi
    refine hret _ us[i] h ?_ (h1.get i _ _ hy hu)
    unfold execOp
    simp only [hop,hx,Instr.extract,Sem.run_bind]
    simp [hu,Sem.run_pure]
   ·cases h
  ·cases h
 -- index
 ·rename_i ty x ix hop
  split at h
  ·rename_i cs k len elem sz hcs hk hA
   split at h
   ·rename_i hle
    split at h
    ·rename_i y hy
     obtain ⟨us,h1,hx⟩:=hlk (x:=x) (by rw [hop];simp [Op.operands]) hcs
     obtain ⟨kk,hix⟩:=yt4 hk fun z hz=>hlk (x:=ix) (by rw [hop];simp [Op.operands]) hz
     obtain ⟨u,h2,h3⟩:=ypb (w:=w) hy h1
     obtain ⟨g1,g2⟩:=yqp hA w
     have hle:=leb_le.1 hle
     refine hret _ u h ?_ h3
     unfold execOp
     simp only [hop,hx,hix,Instr.index,asIntOf,Sem.run_bind,Sem.run_pure,Result.andThen_ok,g1]
     rw [if_pos ⟨by omega,by omega⟩]
     simp [Sem.run_bind,g2,h2,Sem.run_pure]
    ·cases h
   ·cases h
  ·split at h
   ·rename_i s n hs hn hcl hstr
    simp only [Option.some.injEq,Prod.mk.injEq] at h
    obtain ⟨rfl,-,rfl⟩:=h
    have hx:=yg1 hs fun z hz=>hlk (x:=x) (by rw [hop];simp [Op.operands]) hz
    obtain ⟨kk,hix⟩:=ypv hn fun z hz=>hlk (x:=ix) (by rw [hop];simp [Op.operands]) hz
    obtain ⟨q1,q2⟩:yc3 n s.size:=hps _ (zal ..)
    have hb:s[n.toNat]? =some s[n.toNat]:=by simp [q2]
    have hrun:(execOp ρ o).run S.P w=.ok (.value (.int .u8 ((s.data.toList.getD n.toNat 0).toNat:Int))) w:=by
     unfold execOp
     simp only [hop,hx,hix,Instr.index,asIntOf,Sem.run_bind,Sem.run_pure,Result.andThen_ok,isStr_run hstr w]
     rw [if_pos q1,hb]
     simp [Sem.run_pure,List.getD,ByteArray.getElem_eq_getElem_data,q2]
    rw [hrun]
    exact ⟨Ext.refl w,rfl⟩
   ·exact hpure (by rw [hop];simp) h
 -- indexAddr
 ·rename_i ty x ix hop
  split at h
  ·rename_i i n hx hn
   split at h
   ·rename_i k lb mu sz hm hsz
    split at h
    ·rename_i hse
     simp only [Option.some.injEq,Prod.mk.injEq] at h
     obtain ⟨rfl,-,rfl⟩:=h
     have hq:=hlk (x:=x) (by rw [hop];simp [Op.operands]) (yc1 hx)
     have hq':e[i]? =some (ρ x):=hq
     obtain ⟨kk,hix⟩:=ypv hn fun z hz=>hlk (x:=ix) (by rw [hop];simp [Op.operands]) hz
     obtain ⟨q1,q2⟩:yc3 n k.n:=hps _ (zal ..)
     obtain ⟨ao,cap,hv,k1,k2,k3,k4⟩:=hM.holds i _ _ hq' hm
     obtain ⟨elem,g1,g2⟩:=yfv hsz w
     cases ao with
     |none=>have:=k3 rfl;omega
     |some a=>
      obtain ⟨⟨b,off,sp⟩,hsp⟩:∃ a',a'=a:=⟨a,rfl⟩
      have hs0:sp=none:=by have:=(k4 a rfl).1 (by omega);rw [← hsp] at this;exact this
      subst hs0
      subst hsp
      have hrun:(execOp ρ o).run S.P w=.ok (.value (.pointer (some ⟨b,off+(n.toNat * sz+0),none⟩))) w:=by
       unfold execOp
       simp only [hop,hv,hix,Instr.indexAt,asIntOf,Sem.run_bind,Sem.run_pure,Result.andThen_ok,g1]
       rw [if_pos ⟨q1,by omega⟩]
       simp only [Sem.run_bind,g2,Result.andThen_ok,Sem.run_pure]
       rw [Addr.add_mid]
       rfl
      rw [hrun]
      exact ⟨Ext.refl w,b,off,k.n,cap,by rw [hq',hv],⟨q1,q2⟩,rfl⟩
    ·cases h
   ·exact hhook rfl h
   ·cases h
  ·rename_i i off hx
   split at h
   ·rename_i k len elem sz hk hA
    split at h
    ·rename_i hle
     rw [yak] at h
     obtain ⟨b,o',hb,hxv⟩:=hlk (x:=x) (by rw [hop];simp [Op.operands]) (yc1 hx)
     obtain ⟨kk,hix⟩:=yt4 hk fun z hz=>hlk (x:=ix) (by rw [hop];simp [Op.operands]) hz
     obtain ⟨g1,g2⟩:=yqp hA w
     have hle:=leb_le.1 hle
     refine hret _ _ h ?_ ⟨b,o',hb,rfl⟩
     unfold execOp
     simp only [hop,hxv,hix,Instr.indexAt,Instr.sureAddr,asIntOf,Sem.run_bind,Sem.run_pure,Result.andThen_ok,g1]
     rw [if_pos ⟨by omega,by omega⟩]
     simp only [Sem.run_bind,g2,Result.andThen_ok,Sem.run_pure]
     rw [Addr.add_mid,Nat.add_assoc]
     simp
    ·cases h
   ·cases h
  ·cases h
 -- call
 ·rename_i fv xs ats hop
  split at h
  ·rename_i f fi ca us hs hus
   split at h
   ·rename_i g hg
    split at h
    ·rename_i qs r hgr
     simp only [Option.some.injEq,Prod.mk.injEq] at h
     obtain ⟨rfl,-,rfl⟩:=h
     obtain ⟨a1,a2,k1,k2,hx⟩:=fnS_is hs fun s hs=>hlk (x:=fv) (by rw [hop];simp [Op.operands,Call.operands]) hs
     have hv:=yuk (ρ:=ρ) (e:=e) hc hus (fun x hx=>hρ x (by rw [hop];simp [Op.operands,Call.operands,Array.mem_toList_iff.1 hx]))
     obtain ⟨q1,q2⟩:=hS.fns f g hg _ mem qs r none hgr hps
     have hall:=k1.ones.append (hv.append k2.ones)
     have hrun:(execOp ρ o).run S.P w=.ok (.enter f (a1++(xs.toList.map ρ++a2)).toArray) w:=by
      unfold execOp
      simp only [hop,resolve,hx,Deferred.ofValue,invoke,Sem.run_bind,Sem.run_pure,Result.andThen_ok,ynt xs]
      rw [q1]
      simp
     rw [hrun]
     exact (q2 w e _ hM hall).mono fun x w' ⟨v,h1,h2,h3⟩=>⟨v,h1,h3,h2⟩
    ·split at h<;>simp at h
    ·cases h
   ·cases h
  ·cases h
 -- len
 ·rename_i xs ts hop
  split at h
  ·rename_i x t hx ht
   split at h
   ·rename_i i sz hpv hsz
    split at h
    ·rename_i k lb mu hm
     have hq:e[i]? =some (ρ x):=hlk (x:=x) (by rw [hop];simp [Op.operands,Call.operands,←Array.mem_toList_iff,hx]) (yc1 hpv)
     obtain ⟨ao,cap,hv,_⟩:=hM.holds i _ _ hq hm
     obtain ⟨elem,g1,_⟩:=yfv hsz w
     have e1:xs=#[x]:=by rw [← zbq (xs:=xs),hx]
     have e2:ts=#[t]:=by rw [← zbq (xs:=ts),ht]
     refine hret _ (.int .i64 (k.n:Int)) h ?_ rfl
     subst e1;subst e2
     unfold execOp
     simp only [hop,resolve,invoke,builtin,Builtin.len_,Sem.run_bind,Sem.run_pure,Result.andThen_ok]
     simp [hv,g1,goInt,Sem.run_bind]
    ·exact hhook rfl h
    ·cases h
   ·exact hpureOr (by rw [hop];simp) h
  ·cases h
 -- append
 ·rename_i hop
  split at h
  ·split at h
   ·split at h<;>simp at h
   ·exact hhook rfl h
   ·cases h
  ·cases h
 -- eql
 ·rename_i ty x y ty' hop
  unfold yiy at h
  split at h
  ·rename_i u v hu hv
   split at h
   ·rename_i us vs g hus hvs hg
    split at h
    ·rename_i b hb
     obtain ⟨k1,k2⟩:=hS.eqs ty g hg
     obtain ⟨us',h1,hx⟩:=hlk (x:=x) (by rw [hop];simp [Op.operands]) hu
     obtain ⟨vs',h2,hy⟩:=hlk (x:=y) (by rw [hop];simp [Op.operands]) hv
     rw [yes hus h1] at hx
     rw [yes hvs h2] at hy
     have hbk:=k2 us.toArray vs.toArray b (by simpa using hb) w
     refine hret _ (.bool b) h ?_ rfl
     unfold execOp
     simp only [hop,hx,hy,eqGuard,binOp,Sem.run_bind,Sem.run_pure,Result.andThen_ok]
     simp [k1,hbk,program,Sem.run]
    ·cases h
   ·cases h
  ·exact hpureOr (by rw [hop];simp) h
 -- neq
 ·rename_i ty x y ty' hop
  unfold yiy at h
  split at h
  ·rename_i u v hu hv
   split at h
   ·rename_i us vs g hus hvs hg
    split at h
    ·rename_i b hb
     obtain ⟨k1,k2⟩:=hS.eqs ty g hg
     obtain ⟨us',h1,hx⟩:=hlk (x:=x) (by rw [hop];simp [Op.operands]) hu
     obtain ⟨vs',h2,hy⟩:=hlk (x:=y) (by rw [hop];simp [Op.operands]) hv
     rw [yes hus h1] at hx
     rw [yes hvs h2] at hy
     have hbk:=k2 us.toArray vs.toArray b (by simpa using hb) w
     refine hret _ (.bool (!b)) h ?_ rfl
     unfold execOp
     simp only [hop,hx,hy,eqGuard,binOp,Sem.run_bind,Sem.run_pure,Result.andThen_ok]
     simp [k1,hbk,program,Sem.run]
    ·cases h
   ·cases h
  ·exact hpureOr (by rw [hop];simp) h
 ·exact hhook rfl h
 ·exact hhook rfl h
 ·cases h
 ·rename_i hns _
  exact hpureOr (fun cs b hcs=>by simp_all) h
end
end Go.Proofs.Ytiiekgcjilelpaa
