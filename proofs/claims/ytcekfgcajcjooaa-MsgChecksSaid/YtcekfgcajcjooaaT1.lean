/- A symbolic run, wider: what it is. Values are the model's own; what lies in memory goes by numbers. No program in sight. -/
import Derived.Test.YtcekfgcajcjooaaBase
import Derived.Test.YtcekfgcajcjooaaRg
import Derived.Test.YtcekfgcajcjooaaMem
set_option linter.unusedVariables false
set_option linter.unusedSimpArgs false
namespace Go.Proofs.Ytcekfgcajcjooaa
open Go.RowKit

/-- One cell: a value, a closed one, the address of a cell of a known block or of a known slice's element, a known thing's handle. -/
inductive PV where
  | v (x : Value)
  | kI (k : IntKind) (n : Int)
  | kB (b : Bool)
  | kS (s : ByteArray)
  | ptr (i off : Nat)
  | elt (i sz : Nat) (idx : Int) (off : Nat)
  | obj (i : Nat)
  | any
inductive CV where
  | one (x : PV)
  | agg (cs : List PV)
inductive SV where
  | c (x : CV)
  | tup (xs : List CV)
  | fn (f : FuncId) (first caps : List PV)
  | gd (b : Bool) (x : SV)
/-- A slice that is known: the cells of an element, how many elements, what the cells of each are. -/
structure KS where
  sz : Nat
  n : Nat
  cells : Nat → List PV
inductive Ob (β : Type) where
  | blk (cells : List PV)
  | sl (k : KS) (b : β)
  | us (b : β)
  | dead
structure En (β : Type) where
  ob : Ob β
  mu : Bool
abbrev Mem (β : Type) := List (En β)
structure SRec where
  ix : Nat
  dst : Option Nat
  ctx : List (Nat × Bool)
  sv : SV

def pureSem {α : Type} (P : Program) : Sem α → Option α
  | .pure a => some a
  | .program k => pureSem P (k P)
  | _ => none

def forceN {α : Type} (n : Nat) (k : Nat → α) : α := match n with
  | 0 => k 0
  | m + 1 => k (m + 1)
theorem forceN_eq {α : Type} (n : Nat) (k : Nat → α) : forceN n k = k n := by cases n <;> rfl
def forceI {α : Type} (n : Int) (k : Int → α) : α := match n with
  | .ofNat m => forceN m fun m => k (.ofNat m)
  | .negSucc m => forceN m fun m => k (.negSucc m)
theorem forceI_eq {α : Type} (n : Int) (k : Int → α) : forceI n k = k n := by cases n <;> simp [forceI, forceN_eq]
def forceB {α : Type} (b : Bool) (k : Bool → α) : α := match b with
  | true => k true
  | false => k false
theorem forceB_eq {α : Type} (b : Bool) (k : Bool → α) : forceB b k = k b := by cases b <;> rfl
def eqb (a b : Nat) : Bool := Nat.beq a b
def leb (a b : Nat) : Bool := Nat.ble a b
def beqB : Bool → Bool → Bool
  | true, b => b
  | false, b => !b
def allB {α : Type} (f : α → Bool) : List α → Bool
  | [] => true
  | x :: xs => f x && allB f xs
def anyB {α : Type} (f : α → Bool) : List α → Bool
  | [] => false
  | x :: xs => f x || anyB f xs
def mapO {α β : Type} (f : α → Option β) : List α → Option (List β)
  | [] => some []
  | x :: xs => match f x with
    | none => none
    | some y => (match mapO f xs with | none => none | some ys => some (y :: ys))
def recIx (g : Nat) : List SRec → Option SRec
  | [] => none
  | r :: rs => match eqb r.ix g with | true => some r | false => recIx g rs
def dstIs (t : Nat) : Option Nat → Bool
  | none => false
  | some u => eqb u t
def recDst (t : Nat) : List SRec → Option SRec
  | [] => none
  | r :: rs => match dstIs t r.dst with | true => some r | false => recDst t rs
def baseGet (t : Nat) : List (Nat × SV) → Option SV
  | [] => none
  | (u, x) :: rs => match eqb u t with | true => some x | false => baseGet t rs
def svB : SV → Option Bool
  | .c (.one (.v (.bool b))) => some b
  | .c (.one (.kB b)) => some b
  | _ => none
def boolOf (recs : List SRec) (g : Nat) : Bool :=
  match recIx g recs with
  | some r => (match svB r.sv with | some b => b | none => false)
  | none => false
def sat (recs : List SRec) : List (Nat × Bool) → Bool
  | [] => true
  | (g, true) :: c => boolOf recs g && sat recs c
  | (g, false) :: c => !boolOf recs g && sat recs c
def inC (g : Nat) (w : Bool) : List (Nat × Bool) → Bool
  | [] => false
  | (h, u) :: c => (eqb h g && beqB u w) || inC g w c
def subC : List (Nat × Bool) → List (Nat × Bool) → Bool
  | [], _ => true
  | (g, w) :: c, d => inC g w d && subC c d

def svV (x : Value) : SV := .c (.one (.v x))
def constS : Value → SV
  | .int k n => .c (.one (.kI k n))
  | .bool b => .c (.one (.kB b))
  | .string s => .c (.one (.kS s))
  | x => svV x
def lookS (recs : List SRec) (base : List (Nat × SV)) (c : List (Nat × Bool)) : Operand → Option SV
  | .tmp t => match recDst t recs with
    | some r => (match subC r.ctx c with | true => some r.sv | false => none)
    | none => (match baseGet t base with | some x => some x | none => some (svV undef))
  | .const v => some (constS v)
  | .global g => some (svV (.pointer (some ⟨g, 0, none⟩)))
  | .func f => some (.fn f [] [])

def valP : PV → Option Value
  | .v x => some x
  | .kI k n => some (.int k n)
  | .kB b => some (.bool b)
  | .kS s => some (.string s)
  | _ => none
def valC : CV → Option Value
  | .one p => valP p
  | .agg cs => match mapO valP cs with | some xs => some (.agg xs.toArray) | none => none
def valS : Option SV → Option Value
  | some (.c x) => valC x
  | some (.tup xs) => (match mapO valC xs with | some us => some (.tuple us.toArray) | none => none)
  | _ => none
def cvS : Option SV → Option CV
  | some (.c x) => some x
  | _ => none
def pvS : Option SV → Option PV
  | some (.c (.one x)) => some x
  | _ => none
def closedS : Option SV → Bool
  | some (.c (.one (.kI _ _))) => true
  | some (.c (.one (.kB _))) => true
  | some (.c (.one (.kS _))) => true
  | _ => false
def cellsC : CV → List PV
  | .one x => [x]
  | .agg cs => cs
/-- A cell as it may be stored. -/
def oneP {β : Type} (one : β → Bool) (mem : Mem β) : PV → Bool
  | .v x => x.oneCell'
  | .any => false
  | .obj i => (match mem[i]? with
    | some ⟨.sl _ _, _⟩ => true
    | some ⟨.blk _, _⟩ => true
    | some ⟨.us b, _⟩ => one b
    | _ => false)
  | _ => true
/-- A part of a row of cells. -/
def partS (P : Program) (ty : TypeId) (cells : List PV) (off : Nat) : Option CV :=
  match pureSem P (isAgg ty) with
  | some true => (match pureSem P (sizeOf ty) with
    | some n => (match leb (off + n) cells.length with
      | true => some (.agg ((cells.drop off).take n))
      | false => none)
    | none => none)
  | some false => (match cells[off]? with | some p => some (.one p) | none => none)
  | none => none
def idxOk (idx : Int) (n : Nat) : Prop := 0 ≤ idx ∧ idx.toNat < n
def loadS {β : Type} (P : Program) (mem : Mem β) (ty : TypeId) : PV → Option CV
  | .ptr i off => (match mem[i]? with
    | some ⟨.blk cells, _⟩ => partS P ty cells off
    | _ => none)
  | .elt i sz idx off => (match mem[i]? with
    | some ⟨.sl k _, _⟩ => (match eqb sz k.sz with | true => partS P ty (k.cells idx.toNat) off | false => none)
    | _ => none)
  | _ => none
def storeS {β : Type} (P : Program) (one : β → Bool) (mem : Mem β) (ty : TypeId) (i off : Nat) (y : CV) : Option (Mem β) :=
  match mem[i]? with
  | some ⟨.blk cells, true⟩ => (match pureSem P (sizeOf ty) with
    | none => none
    | some n => match eqb (cellsC y).length n && (leb (off + n) cells.length && allB (oneP one mem) (cellsC y)) with
      | true => some (mem.set i ⟨.blk (cells.take off ++ (cellsC y ++ cells.drop (off + n))), true⟩)
      | false => none)
  | _ => none

def fOff (s : TypeId) (f : Nat) : Sem Nat := do
  match ← underlying s with
  | .struct fields => match fields[f]? with
    | some fl => do if (← sizeOf fl.type) = 0 then stuck "" else pure fl.offset
    | none => stuck ""
  | _ => stuck ""
def fTy (s : TypeId) (f : Nat) : Sem (TypeId × Nat) := do
  match ← underlying s with
  | .struct fields => match fields[f]? with
    | some fl => pure (fl.type, fl.offset)
    | none => stuck ""
  | _ => stuck ""
def bPlaces (t : TypeId) : Sem (Array (Nat × Nat)) := do
  match ← underlying t with
  | .struct fields => fields.mapM fun f => do pure (f.offset, ← sizeOf f.type)
  | _ => stuck ""
def aElem (t : TypeId) : Sem (Nat × TypeId × Nat) := do
  match ← underlying t with
  | .array len elem => do pure (len, elem, ← sizeOf elem)
  | _ => stuck ""
def sElem (t : TypeId) : Sem Nat := do
  match ← underlying t with
  | .slice elem => sizeOf elem
  | _ => stuck ""
def isStr (t : TypeId) : Sem Bool := do
  match ← underlying t with
  | .string => pure true
  | _ => pure false
def putL : List PV → Nat → List PV → List PV
  | [], _, cs => cs
  | x :: xs, off, cs => putL xs (off + 1) (cs.set off x)
def fillS (place : Nat → Option (Nat × Nat)) (cells : List PV) : List (Nat × CV) → Option (List PV)
  | [] => some cells
  | (i, v) :: rest => match place i with
    | none => none
    | some (off, size) => match eqb (cellsC v).length size && leb (off + (cellsC v).length) cells.length with
      | true => fillS place (putL (cellsC v) off cells) rest
      | false => none

/-- Callees: what they answer, how memory turns, what they ask. -/
abbrev Fn2 (β : Type) := List CV → Mem β → Option (List Prop × SV × Option (Mem β))
abbrev Fns (β : Type) := List (FuncId × Fn2 β)
def fnGet {β : Type} (f : Nat) : Fns β → Option (Fn2 β)
  | [] => none
  | (g, x) :: rs => match eqb g f with | true => some x | false => fnGet f rs
abbrev EqFns := List (TypeId × (List Value → List Value → Option Bool))
def eqGet (f : Nat) : EqFns → Option (List Value → List Value → Option Bool)
  | [] => none
  | (g, x) :: rs => match eqb g f with | true => some x | false => eqGet f rs

abbrev OpR (β : Type) := Option (SV × Option (Mem β) × List Prop)
def retS {β : Type} (x : SV) : OpR β := some (x, none, [])
/-- A closed value is known as such. -/
def closeV {α : Type} (x : Value) (k : SV → α) : α := match x with
  | .int kk n => forceI n fun n => k (.c (.one (.kI kk n)))
  | .bool b => forceB b fun b => k (.c (.one (.kB b)))
  | .string s => k (.c (.one (.kS s)))
  | x => k (svV x)
def purePath {β : Type} (P : Program) (σ : Operand → Option SV) (o : Oper) : OpR β :=
  match allB (fun x => (valS (σ x)).isSome) o.op.operands.toList with
  | true => (match pureSem P (execOp (fun x => (valS (σ x)).getD undef) o) with
    | some (.value v) => (match allB (fun x => closedS (σ x)) o.op.operands.toList with
      | true => closeV v fun s => retS s
      | false => retS (svV v))
    | _ => none)
  | false => none
def isSel : Op → Bool
  | .select _ _ => true
  | _ => false

/-- What a run goes by. -/
structure Sy (β : Type) where
  P : Program
  F : Fns β
  E : EqFns
  A : TypeId → Fn2 β
  one : β → Bool
  fuel : Nat

def okC {β : Type} (S : Sy β) (mem : Mem β) : CV → Bool
  | .one p => oneP S.one mem p
  | .agg _ => true
def cvO {β : Type} (S : Sy β) (mem : Mem β) (s : Option SV) : Option CV :=
  match cvS s with
  | some y => (match okC S mem y with | true => some y | false => none)
  | none => none
def idxVal : Option SV → Option Int
  | some (.c (.one (.v (.int _ n)))) => some n
  | some (.c (.one (.kI _ n))) => some n
  | _ => none
def idxKn : Option SV → Option Nat
  | some (.c (.one (.kI _ (.ofNat n)))) => some n
  | _ => none
def evalEq {β : Type} (S : Sy β) (σ : Operand → Option SV) (o : Oper) (neg : Bool) (ty : TypeId) (x y : Operand) : OpR β :=
  match σ x, σ y with
  | some (.c (.agg u)), some (.c (.agg v)) => (match mapO valP u, mapO valP v, eqGet ty S.E with
    | some us, some vs, some g => (match g us vs with
      | some b => (match neg with | true => retS (svV (.bool (!b))) | false => retS (svV (.bool b)))
      | none => none)
    | _, _, _ => none)
  | _, _ => purePath S.P σ o

/-- What one operation leaves. -/
def evalOp {β : Type} (S : Sy β) (recs : List SRec) (base : List (Nat × SV)) (mem : Mem β) (c : List (Nat × Bool)) (eff : Bool) (o : Oper) : OpR β :=
  match o.op with
  | .move x | .assign x => (match lookS recs base c x with | some s => retS s | none => none)
  | .pick (.tmp t) a b => (match recDst t recs with
    | none => none
    | some r => match subC r.ctx c, r.sv with
      | true, .c (.one (.kB true)) => (match lookS recs base ((r.ix, true) :: c) a with | some s => retS s | none => none)
      | true, .c (.one (.kB false)) => (match lookS recs base ((r.ix, false) :: c) b with | some s => retS s | none => none)
      | true, .c (.one (.v (.bool q))) =>
        (match valS (lookS recs base ((r.ix, true) :: c) a), valS (lookS recs base ((r.ix, false) :: c) b) with
        | some (.bool x), some (.bool y) => (match a, b with
          | .const (.bool true), _ => retS (svV (.bool (q || y)))
          | _, .const (.bool false) => retS (svV (.bool (q && x)))
          | _, _ => retS (svV (.bool (cond q x y))))
        | _, _ => none)
      | _, _ => none)
  | .load ty x => (match pvS (lookS recs base c x) with
    | some p => (match loadS S.P mem ty p with | some y => retS (.c y) | none => none)
    | _ => none)
  | .store ty x y => (match c, eff, pvS (lookS recs base c x), cvS (lookS recs base c y) with
    | [], true, some (.ptr i off), some u => (match storeS S.P S.one mem ty i off u with | some m' => some (svV undef, some m', []) | none => none)
    | _, _, _, _ => none)
  | .box ty x => (match c, eff, cvO S mem (lookS recs base c x) with
    | [], true, some u => some (.c (.one (.ptr mem.length 0)), some (mem ++ [⟨.blk (cellsC u), true⟩]), [])
    | _, _, _ => none)
  | .alloc ty => (match c, eff, pureSem S.P (zeroValue ty) with
    | [], true, some z => some (.c (.one (.ptr mem.length 0)), some (mem ++ [⟨.blk (z.cells.toList.map .v), true⟩]), [])
    | _, _, _ => none)
  | .fieldAddr s x f => (match pvS (lookS recs base c x), pureSem S.P (fOff s f) with
    | some (.ptr i off), some d => forceN (off + d) fun k => retS (.c (.one (.ptr i k)))
    | some (.elt i sz idx off), some d => forceN (off + d) fun k => retS (.c (.one (.elt i sz idx k)))
    | _, _ => none)
  | .nilCheck x => (match pvS (lookS recs base c x) with
    | some (.ptr i off) => retS (.c (.one (.ptr i off)))
    | some (.elt i sz idx off) => retS (.c (.one (.elt i sz idx off)))
    | _ => none)
  | .makeFunc (.func f) fi ca => (match mapO (fun x => pvS (lookS recs base c x)) fi.toList, mapO (fun x => pvS (lookS recs base c x)) ca.toList with
    | some us, some vs => retS (.fn f us vs)
    | _, _ => none)
  | .field ty x f => (match cvS (lookS recs base c x), pureSem S.P (fTy ty f) with
    | some (.agg cs), some (t, off) => (match partS S.P t cs off with | some y => retS (.c y) | none => none)
    | _, _ => none)
  | .build ty ps => (match pureSem S.P (bPlaces ty), pureSem S.P (zeroValue ty), mapO (fun x => match cvO S mem (lookS recs base c x.2) with | some y => some (x.1, y) | none => none) ps.toList with
    | some pl, some z, some parts => (match fillS (pl[·]?) (z.cells.toList.map .v) parts with | some cs => retS (.c (.agg cs)) | none => none)
    | _, _, _ => none)
  | .extract x i => (match lookS recs base c x with
    | some (.tup xs) => (match xs[i]? with | some y => retS (.c y) | none => none)
    | _ => none)
  | .index ty x ix => (match lookS recs base c x, idxKn (lookS recs base c ix), pureSem S.P (aElem ty) with
    | some (.c (.agg cs)), some k, some (len, elem, sz) => (match leb (k + 1) len with
      | true => (match partS S.P elem cs (k * sz) with | some y => retS (.c y) | none => none)
      | false => none)
    | _, _, _ => (match valS (lookS recs base c x), idxVal (lookS recs base c ix), closedS (lookS recs base c x) && closedS (lookS recs base c ix), pureSem S.P (isStr ty) with
      | some (.string s), some n, false, some true => some (svV (.int .u8 ((s.data.toList.getD n.toNat 0).toNat : Int)), none, [idxOk n s.size])
      | _, _, _, _ => purePath S.P (lookS recs base c) o))
  | .indexAddr ty x ix => (match pvS (lookS recs base c x), idxVal (lookS recs base c ix) with
    | some (.obj i), some n => (match mem[i]?, pureSem S.P (sElem ty) with
      | some ⟨.sl k _, _⟩, some sz => (match eqb sz k.sz with
        | true => some (.c (.one (.elt i sz n 0)), none, [idxOk n k.n])
        | false => none)
      | _, _ => none)
    | some (.ptr i off), _ => (match idxKn (lookS recs base c ix), pureSem S.P (aElem ty) with
      | some k, some (len, elem, sz) => (match leb (k + 1) len with
        | true => forceN (off + k * sz) fun q => retS (.c (.one (.ptr i q)))
        | false => none)
      | _, _ => none)
    | _, _ => none)
  | .call { callee := .value fv, args := xs, argTypes := ats } => (match lookS recs base c fv, mapO (fun x => cvS (lookS recs base c x)) xs.toList with
    | some (.fn f fi ca), some us => (match fnGet f S.F with
      | some g => (match g (fi.map .one ++ (us ++ ca.map .one)) mem with
        | some (ps, r, none) => some (r, none, ps)
        | some (ps, r, some m') => (match c, eff with | [], true => some (r, some m', ps) | _, _ => none)
        | none => none)
      | none => none)
    | _, _ => none)
  | .call { callee := .builtin .len, args := xs, argTypes := ts } => (match xs.toList, ts.toList with
    | [x], [t] => (match pvS (lookS recs base c x), pureSem S.P (sElem t) with
      | some (.obj i), some _ => (match mem[i]? with
        | some ⟨.sl k _, _⟩ => retS (svV (.int .i64 (k.n : Int)))
        | _ => none)
      | _, _ => purePath S.P (lookS recs base c) o)
    | _, _ => none)
  | .call { callee := .builtin .append, args := xs, argTypes := ts } => (match c, eff, xs.toList, ts.toList with
    | [], true, [x, y], [t, t'] => (match eqb t t', cvS (lookS recs base c x), cvS (lookS recs base c y) with
      | true, some u, some v => (match S.A t [u, v] mem with
        | some (ps, r, some m') => some (r, some m', ps)
        | _ => none)
      | _, _, _ => none)
    | _, _, _, _ => none)
  | .binOp .eql ty x y ty' => evalEq S (lookS recs base c) o false ty x y
  | .binOp .neq ty x y ty' => evalEq S (lookS recs base c) o true ty x y
  | .select _ _ => none
  | _ => purePath S.P (lookS recs base c) o

/-- The guards that an operation stands under; none inside: it is left out. -/
def ctxOf (recs : List SRec) : Option (Nat × Bool) → Option (Option (List (Nat × Bool)))
  | none => some (some [])
  | some (g, w) => match recIx g recs with
    | none => none
    | some r => match r.dst with
      | some t => (match recDst t recs with
        | some r' => (match eqb r'.ix g, r.sv with
          | true, .c (.one (.kB b)) => (match beqB b w with | true => some (some ((g, w) :: r.ctx)) | false => some none)
          | true, .c (.one (.v (.bool _))) => some (some ((g, w) :: r.ctx))
          | _, _ => none)
        | none => none)
      | none => none

def guardP (b : Bool) : List Prop → List Prop
  | [] => []
  | p :: ps => (b = true → p) :: guardP b ps
def askP (recs : List SRec) (c : List (Nat × Bool)) (qs : List Prop) : List Prop :=
  match c, qs with
  | _, [] => []
  | [], qs => qs
  | c, qs => guardP (sat recs c) qs
def runOps {β : Type} (S : Sy β) (base : List (Nat × SV)) (pn sz : Nat) : List Oper → Nat → List SRec → Mem β → Nat → List Prop → Option (List SRec × Mem β × Nat × List Prop)
  | [], _, recs, mem, ver, ps => some (recs, mem, ver, ps)
  | o :: os, i, recs, mem, ver, ps => match (match o.dst with | none => true | some t => leb (t + 1) sz) with
    | false => none
    | true => match ctxOf recs o.guard with
      | none => none
      | some none => forceN (i + 1) fun j => runOps S base pn sz os j (⟨i, o.dst, [], svV undef⟩ :: recs) mem ver ps
      | some (some c) => match evalOp S recs base mem c (leb pn i) o with
        | none => none
        | some (sv, none, qs) => forceN (i + 1) fun j => runOps S base pn sz os j (⟨i, o.dst, c, sv⟩ :: recs) mem ver (askP recs c qs ++ ps)
        | some (sv, some m', qs) => forceN (i + 1) fun j => forceN (ver + 1) fun ver => runOps S base pn sz os j (⟨i, o.dst, c, sv⟩ :: recs) m' ver (askP recs c qs ++ ps)

def flushV (recs : List SRec) (r : SRec) : SV :=
  match r.ctx with
  | [] => r.sv
  | c => .gd (sat recs c) r.sv
def flush (all : List SRec) : List SRec → List (Nat × SV) → List (Nat × SV)
  | [], base => base
  | r :: rs, base => match r.dst with
    | some t => (t, flushV all r) :: flush all rs base
    | none => flush all rs base

def memN (d : Nat) : List Nat → Bool
  | [] => false
  | x :: xs => eqb x d || memN d xs
def wget (d : Nat) : List (Nat × Nat) → Option Nat
  | [] => none
  | (u, j) :: ws => match eqb u d with | true => some j | false => wget d ws
def noneB {α : Type} : Option α → Bool
  | none => true
  | some _ => false
def appN {α : Type} : List Nat → List Nat → (List Nat → α) → α
  | [], ys, k => k ys
  | x :: xs, ys, k => appN xs ys fun zs => k (x :: zs)
theorem appN_eq {α : Type} : ∀ (xs ys : List Nat) (k : List Nat → α), appN xs ys k = k (xs ++ ys)
  | [], _, _ => rfl
  | x :: xs, ys, k => by simp only [appN]; rw [appN_eq xs ys]; rfl
def rfGo (A : Array Oper) : List Oper → Nat → List (Nat × Nat) → List Nat → Bool
  | [], _, _, _ => true
  | o :: os, i, ws, lk =>
    appN (o.looksAt A) [] fun ls => appN ls lk fun lk' => forceN (i + 1) fun j =>
      (!isSel o.op && allB (fun e => !Region.binds .any e || leb (e.on + 1) i) o.after.toList) &&
      (allB (fun t => match wget t ws with | some j => anyB (fun e => Region.binds .any e && eqb e.on j) o.after.toList | none => true) ls &&
      (match o.dst with
        | some d => (!memN d lk' && noneB (wget d ws)) && rfGo A os j ((d, i) :: ws) lk'
        | none => rfGo A os j ws lk'))
def rgF (l : List Oper) : Bool := rfGo l.toArray l 0 [] []
def tailN : List Oper → Nat
  | [] => 0
  | o :: os => match o.op with | .assign _ => tailN os + 1 | _ => 0

structure SSt (β : Type) where
  base : List (Nat × SV)
  mem : Mem β
  ver : Nat
inductive SX where
  | normal
  | exit (id : Nat)
  | ret
inductive Tr (β : Type) where
  | leaf (x : SX) (s : SSt β)
  | br (b : Bool) (t e : Tr β)
  | need (ps : List Prop) (t : Tr β)
  | fail
def Tr.bind {β : Type} (f : SSt β → Tr β) : Tr β → Tr β
  | .leaf .normal s => f s
  | .leaf x s => .leaf x s
  | .br b t e => .br b (t.bind f) (e.bind f)
  | .need ps t => .need ps (t.bind f)
  | .fail => .fail
def Tr.unblock {β : Type} (id : Nat) : Tr β → Tr β
  | .leaf (.exit i) s => (match eqb i id with | true => .leaf .normal s | false => .leaf (.exit i) s)
  | .leaf x s => .leaf x s
  | .br b t e => .br b (t.unblock id) (e.unblock id)
  | .need ps t => .need ps (t.unblock id)
  | .fail => .fail

def regT {β : Type} (S : Sy β) (sz n : Nat) (l : List Oper) (s : SSt β) : Tr β :=
  match runOps S s.base n sz l 0 [] s.mem s.ver [] with
  | some (recs, mem, ver, []) => .leaf .normal ⟨flush recs recs s.base, mem, ver⟩
  | some (recs, mem, ver, ps) => .need ps (.leaf .normal ⟨flush recs recs s.base, mem, ver⟩)
  | none => .fail
def regionS {β : Type} (S : Sy β) (sz : Nat) (l : List Oper) (draw : Bool) (s : SSt β) : Tr β :=
  match draw with
  | false => regT S sz 0 l s
  | true => match rgF l with
    | true => regT S sz l.length l s
    | false => forceN (l.length - tailN l.reverse) fun n => match rgB l n with
      | true => regT S sz n l s
      | false => .fail

def eqK (a b : IntKind) : Bool := decide (a = b)
def mergeV (b : Bool) : Value → Value → Option Value
  | .bool x, .bool y => some (.bool (cond b x y))
  | .int k x, .int k' y => (match eqK k k' with | true => some (.int k (cond b x y)) | false => none)
  | .string x, .string y => some (.string (cond b x y))
  | .slice x n c, .slice y m d => some (.slice (cond b x y) (cond b n m) (cond b c d))
  | _, _ => none
def mergeP (b : Bool) : PV → PV → PV
  | .ptr i o, .ptr j q => (match eqb i j && eqb o q with | true => .ptr i o | false => .any)
  | .obj i, .obj j => (match eqb i j with | true => .obj i | false => .any)
  | x, y => (match valP x, valP y with
    | some u, some w => (match mergeV b u w with | some z => .v z | none => .any)
    | _, _ => .any)
def mergeCells (b : Bool) : List PV → List PV → Option (List PV)
  | [], [] => some []
  | x :: xs, y :: ys => (match mergeCells b xs ys with | some zs => some (mergeP b x y :: zs) | none => none)
  | _, _ => none
def anyS : SV := .c (.one .any)
def mergeS (b : Bool) : Option SV → Option SV → SV
  | some (.c (.one x)), some (.c (.one y)) => .c (.one (mergeP b x y))
  | some (.c (.agg x)), some (.c (.agg y)) => (match mergeCells b x y with | some z => .c (.agg z) | none => anyS)
  | _, _ => anyS
def mergeBase (b : Bool) (b1 b2 : List (Nat × SV)) : List (Nat × SV) → List (Nat × SV) → List (Nat × SV)
  | [], r => r
  | (t, _) :: xs, r => (t, mergeS b (baseGet t b1) (baseGet t b2)) :: mergeBase b b1 b2 xs r
def joinT {β : Type} (b : Bool) (s0 : SSt β) (t e : Tr β) : Tr β :=
  match t, e with
  | .leaf .normal s1, .leaf .normal s2 => (match eqb s1.ver s0.ver && eqb s2.ver s0.ver with
    | true => .leaf .normal ⟨mergeBase b s1.base s2.base (s1.base.take (s1.base.length - s0.base.length)) (mergeBase b s1.base s2.base (s2.base.take (s2.base.length - s0.base.length)) s0.base), s0.mem, s0.ver⟩
    | false => .br b t e)
  | _, _ => .br b t e

/-- Loops that are known, by their first region. -/
abbrev Lps (β : Type) := List (Nat × (SSt β → Option (Tr β)))
def lpGet {β : Type} (f : Nat) : Lps β → Option (SSt β → Option (Tr β))
  | [] => none
  | (g, x) :: rs => match eqb g f with | true => some x | false => lpGet f rs
def idC : Code → Nat
  | .region id _ _ => id
  | .seq x _ => idC x
  | .block _ x => idC x
  | .loop x => idC x
  | .cond _ x _ => idC x
  | _ => 0
def iter {β : Type} (f : SSt β → Tr β) : Nat → SSt β → Tr β
  | 0, _ => .fail
  | n + 1, s => (f s).bind (iter f n)
def symC {β : Type} (S : Sy β) (L : Lps β) (sz : Nat) : Code → SSt β → Tr β
  | .skip, s => .leaf .normal s
  | .region _ ops d, s => regionS S sz ops.toList d s
  | .seq x y, s => (symC S L sz x s).bind (symC S L sz y)
  | .cond c x y, s => (match lookS [] s.base [] c with
    | some (.c (.one (.kB true))) => symC S L sz x s
    | some (.c (.one (.kB false))) => symC S L sz y s
    | some (.c (.one (.v (.bool b)))) => joinT b s (symC S L sz x s) (symC S L sz y s)
    | _ => .fail)
  | .block id c, s => (symC S L sz c s).unblock id
  | .exit id, s => .leaf (.exit id) s
  | .ret, s => .leaf .ret s
  | .loop c, s => (match lpGet (idC c) L with
    | some g => (match g s with | some t => t | none => .fail)
    | none => iter (symC S L sz c) S.fuel s)
  | _, _ => .fail

inductive RT (β : Type) where
  | leaf (x : SV) (s : SSt β)
  | br (b : Bool) (t e : RT β)
  | need (ps : List Prop) (t : RT β)
  | fail
def resOne {β : Type} (P : Program) (s : SSt β) : ResultVar → Option CV
  | .tmp t => cvS (lookS [] s.base [] (.tmp t))
  | .cell t ty => match pvS (lookS [] s.base [] (.tmp t)) with
    | some p => loadS P s.mem ty p
    | _ => none
def resS {β : Type} (P : Program) (rs : List ResultVar) (s : SSt β) : Option SV :=
  match rs with
  | [] => some (.tup [])
  | [a] => (match resOne P s a with | some x => some (.c x) | none => none)
  | [a, b] => (match resOne P s a, resOne P s b with | some x, some y => some (.tup [x, y]) | _, _ => none)
  | [a, b, c] => (match resOne P s a, resOne P s b, resOne P s c with | some x, some y, some z => some (.tup [x, y, z]) | _, _, _ => none)
  | _ => none
def Tr.res {β : Type} (P : Program) (rs : List ResultVar) : Tr β → RT β
  | .leaf (.exit _) _ => .fail
  | .leaf _ s => (match resS P rs s with | some x => .leaf x s | none => .fail)
  | .br b t e => .br b (t.res P rs) (e.res P rs)
  | .need ps t => .need ps (t.res P rs)
  | .fail => .fail
def argBase : Nat → List CV → List (Nat × SV)
  | _, [] => []
  | i, x :: xs => (i, .c x) :: argBase (i + 1) xs
def bodyOf (f : Func) : Code := match f.body with | some c => c | none => .skip
def runFn {β : Type} (S : Sy β) (L : Lps β) (fn : Func) (args : List CV) (mem : Mem β) : RT β :=
  (symC S L fn.ntmps (bodyOf fn) ⟨argBase 0 args, mem, 0⟩).res S.P fn.results.toList

end Go.Proofs.Ytcekfgcajcjooaa
