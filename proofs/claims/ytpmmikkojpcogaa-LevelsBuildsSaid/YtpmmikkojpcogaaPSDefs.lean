/- A frame for walking Go code: immutable data, symbolic states, and what each operation does to them. -/
import Derived.WalkKit
namespace Go.PS
open Go

/-- Immutable data: a one-cell value, an aggregate (its cells), a slice (its elements), a tuple of results, a pointer to immutable cells, a function with what it captured. -/
inductive D where
  | sc (v : Value)
  | ag (cs : List D)
  | sl (l : List D)
  | tup (vs : List D)
  | pt (cs : List D)
  | fn (f : FuncId) (caps : List D)

def D.cells : D → List D
  | .ag cs => cs
  | .sc v => [.sc v]
  | .sl l => [.sl l]
  | .tup vs => [.tup vs]
  | .pt cs => [.pt cs]
  | .fn f caps => [.fn f caps]

abbrev D.int (n : Int) : D := .sc (.int .i64 n)
abbrev D.bool (b : Bool) : D := .sc (.bool b)

/-- A value as the symbolic state knows it: data; a slice of an object of the state's own; a pointer into such an object; the nil slice; a slice without room; aggregates of such; nothing known. -/
inductive PV where
  | d (x : D)
  | ref (o sz off len cap : Nat)
  | ptr (o sz i c : Nat)
  | nilS
  | z0
  | ag (cs : List PV)
  | tup (vs : List PV)
  | fn (f : FuncId) (caps : List PV)
  | unk
  | und
  | ab

abbrev PV.int (n : Int) : PV := .d (.sc (.int .i64 n))
abbrev PV.bool (b : Bool) : PV := .d (.sc (.bool b))

/-- An object of the state's own. -/
inductive Ob where
  | dead
  | gone
  | cells (cs : List PV)
  | row (sz : Nat) (l : List D)

structure St where
  env : Nat → PV
  objs : Nat → Ob

def upd {α : Type} (i : Nat) (x : α) (f : Nat → α) : Nat → α := fun j => if j = i then x else f j

/-- A one-cell constant as a value of the state. -/
def cellPV : Value → PV
  | .slice none 0 0 => .nilS
  | v => .d (.sc v)

def constPV : Value → PV
  | .agg cs => .ag (cs.toList.map cellPV)
  | v => cellPV v

def St.ev (S : St) : Operand → PV
  | .tmp t => S.env t
  | .const v => constPV v
  | .global _ => .unk
  | .func f => .d (.fn f [])

def PV.cells? : PV → Option (List PV)
  | .d (.tup _) => none
  | .d x => some (x.cells.map .d)
  | .ag cs => some cs
  | .tup _ => none
  | .unk => none
  | .und => none
  | .ab => none
  | .ref o sz off len cap => some [.ref o sz off len cap]
  | .ptr o sz i c => some [.ptr o sz i c]
  | .nilS => some [.nilS]
  | .z0 => some [.z0]
  | .fn f caps => some [.fn f caps]

/-- What of a type the walk asks for. -/
structure TyI where
  size : Nat
  agg : Bool
  zero : List Value
  elem : TypeId
  len : Nat
  kind : Nat
  fields : List (Nat × TypeId)
  bytes : Nat
  ok : Bool
  zok : Bool
  peq : Bool
  places : List (Nat × Nat)
  bok : Bool

/-- A struct whose fields are integers, all of them compared. -/
def plainFields (P : Program) : Nat → List Field → Bool
  | _, [] => true
  | n, f :: fs => f.name != "_" && f.offset == n && (match P.underlying f.type with | some (.int _) => true | _ => false) && plainFields P (n + 1) fs

def tyi (P : Program) (t : TypeId) : TyI :=
  { size := P.cellsOf t
    agg := match P.underlying t with | some (.struct _) => true | some (.array _ _) => true | _ => false
    zero := match P.info? t with | some i => (match i.zero with | some z => z.cells.toList | none => []) | none => []
    elem := match P.underlying t with | some (.slice e) => e | some (.array _ e) => e | some (.pointer e) => e | _ => 0
    len := match P.underlying t with | some (.array n _) => n | _ => 0
    kind := match P.underlying t with | some (.slice _) => 1 | some (.array _ _) => 2 | some (.struct _) => 3 | some (.pointer _) => 4 | some .bool => 6 | some (.int _) => 5 | _ => 0
    fields := match P.underlying t with | some (.struct fs) => fs.toList.map fun f => (f.offset, f.type) | _ => []
    bytes := P.bytesOf t
    ok := (P.underlying t).isSome
    zok := match P.info? t with | some i => (match i.zero with | some z => z.cells.size == P.cellsOf t && z.cells.all Value.oneCell' && P.cellsOf t != 0 && (P.cellsOf t == 1 || (match P.underlying t with | some (.struct _) => true | some (.array _ _) => true | _ => false)) | none => false) | none => false
    peq := match P.underlying t with | some (.struct fs) => plainFields P 0 fs.toList && !P.stoodInHeld t && !P.eqGuardType P.depth t && fs.size == P.cellsOf t | _ => false
    places := match P.underlying t with | some (.struct fs) => ((fs.toList.mapM fun f => (P.info? f.type).map fun i => (f.offset, i.size)).getD []) | _ => []
    bok := match P.underlying t with | some (.struct fs) => (fs.toList.mapM fun f => (P.info? f.type).map fun i => (f.offset, i.size)).isSome | _ => false }

def splice {α : Type} (cs : List α) (off : Nat) (xs : List α) : List α := cs.take off ++ xs ++ cs.drop (off + xs.length)

/-- Data of a value, seen in the objects (fuel: how deep). -/
def toD (objs : Nat → Ob) : Nat → PV → Option D
  | 0, _ => none
  | _ + 1, .d x => some x
  | _ + 1, .nilS => some (.sl [])
  | _ + 1, .z0 => some (.sl [])
  | _ + 1, .unk => none
  | _ + 1, .und => none
  | _ + 1, .ab => none
  | n + 1, .ref o sz off len _ => match objs o with
      | .row sz' l => if sz = sz' ∧ off + len ≤ l.length then some (.sl ((l.drop off).take len)) else none
      | .cells cs => if sz = 1 ∧ off + len ≤ cs.length then (((cs.drop off).take len).mapM (toD objs n)).map .sl else none
      | _ => none
  | n + 1, .ptr o _ i c => match objs o with
      | .cells cs => if i = 0 ∧ c = 0 then ((cs.mapM (toD objs n)).map .pt) else none
      | _ => none
  | n + 1, .ag cs => (cs.mapM (toD objs n)).map .ag
  | n + 1, .tup cs => (cs.mapM (toD objs n)).map .tup
  | n + 1, .fn f cs => (cs.mapM (toD objs n)).map (.fn f)

/-- The objects of the state that a value names. -/
def PV.refs (objs : Nat → Ob) : Nat → PV → List Nat
  | 0, _ => []
  | n + 1, .ref o _ off len _ => match objs o with
      | .cells cs => o :: ((cs.drop off).take len).flatMap (PV.refs objs n)
      | _ => [o]
  | n + 1, .ptr o _ _ _ => match objs o with
      | .cells cs => o :: cs.flatMap (PV.refs objs n)
      | _ => [o]
  | n + 1, .ag cs => cs.flatMap (PV.refs objs n)
  | n + 1, .tup cs => cs.flatMap (PV.refs objs n)
  | n + 1, .fn _ cs => cs.flatMap (PV.refs objs n)
  | _ + 1, .d _ => []
  | _ + 1, .nilS => []
  | _ + 1, .z0 => []
  | _ + 1, .unk => []
  | _ + 1, .und => []
  | _ + 1, .ab => []

/-- Data that no memory holds. -/
def D.flat : Nat → D → Bool
  | 0, _ => false
  | n + 1, x =>
    match x with
    | .sc _ => true
    | .ag cs | .tup cs => cs.all (D.flat n)
    | .sl l => l.isEmpty
    | _ => false

mutual
/-- Freezing: an object's row becomes data. -/
def PV.frz (o sz : Nat) (l : List D) : PV → PV
  | .ref o' sz' off len cap => if o' = o then (if sz' = sz ∧ off + len ≤ l.length then .d (.sl ((l.drop off).take len)) else .unk) else .ref o' sz' off len cap
  | .ptr o' sz' i c => if o' = o then (if sz' = sz ∧ i < l.length then .d (.pt ((l[i]?.getD (.sc undef)).cells.drop c)) else .unk) else .ptr o' sz' i c
  | .ag cs => .ag (PV.frzL o sz l cs)
  | .tup cs => .tup (PV.frzL o sz l cs)
  | .fn f cs => .fn f (PV.frzL o sz l cs)
  | .d x => .d x
  | .nilS => .nilS
  | .z0 => .z0
  | .unk => .unk
  | .und => .und
  | .ab => .ab
def PV.frzL (o sz : Nat) (l : List D) : List PV → List PV
  | [] => []
  | c :: cs => PV.frz o sz l c :: PV.frzL o sz l cs
end

def Ob.frz (o sz : Nat) (l : List D) : Ob → Ob
  | .cells cs => .cells (PV.frzL o sz l cs)
  | .dead => .dead
  | .gone => .gone
  | .row sz l => .row sz l

/-- Freezing in all slots, in all objects. -/
def frzEnv (o sz : Nat) (l : List D) (env : Nat → PV) : Nat → PV := fun i => (env i).frz o sz l
def frzObs (o sz : Nat) (l : List D) (objs : Nat → Ob) : Nat → Ob := fun i => (objs i).frz o sz l
theorem frzEnv_at (o sz : Nat) (l : List D) (env : Nat → PV) (i : Nat) : frzEnv o sz l env i = (env i).frz o sz l := rfl
theorem frzObs_at (o sz : Nat) (l : List D) (objs : Nat → Ob) (i : Nat) : frzObs o sz l objs i = (objs i).frz o sz l := rfl

/-- The effect of an operation: its value, the objects that it leaves anew, those that it looks at. -/
structure Eff where
  val : PV
  wr : List (Nat × Ob) := []
  rd : List Nat := []

instance : Inhabited Eff := ⟨{ val := .unk }⟩

abbrev Eff.v (x : PV) : Eff := { val := x }

def wrs : List (Nat × Ob) → (Nat → Ob) → Nat → Ob
  | [], objs => objs
  | (o, ob) :: r, objs => upd o ob (wrs r objs)

def St.app (S : St) (dst : Option Nat) (e : Eff) : St :=
  { env := match dst with | some t => upd t e.val S.env | none => S.env
    objs := wrs e.wr S.objs }

instance : Inhabited D := ⟨.sc default⟩
instance : Inhabited PV := ⟨.unk⟩

/-- What an operation asks, and what it does. -/
abbrev CE := Prop × Eff
abbrev CE.no : CE := (False, { val := .unk })
abbrev CE.v (x : PV) : CE := (True, { val := x })

def PV.asD : PV → Option D
  | .d x => some x
  | .nilS => some (.sl [])
  | .z0 => some (.sl [])
  | .ref .. => none
  | .ptr .. => none
  | .ag _ => none
  | .tup _ => none
  | .fn _ _ => none
  | .unk => none
  | .und => none
  | .ab => none

/-- A load out of cells of data. -/
def ldD (ty : TyI) (cs : List D) : Prop × D :=
  if ty.agg then (ty.size ≤ cs.length, .ag (cs.take ty.size)) else match cs with
    | x :: _ => (True, x)
    | [] => (False, default)

def ldP (ty : TyI) (cs : List PV) : Prop × PV :=
  if ty.agg then (ty.size ≤ cs.length, .ag (cs.take ty.size)) else match cs with
    | x :: _ => (True, x)
    | [] => (False, default)

def ldOb (ty : TyI) (ob : Ob) (sz i c : Nat) : Prop × PV :=
  match ob with
  | .cells cs => ((ldP ty (cs.drop (i * sz + c))).1, (ldP ty (cs.drop (i * sz + c))).2)
  | .row sz' l => (sz = sz' ∧ i < l.length ∧ (ldD ty ((l[i]?.getD default).cells.drop c)).1, .d (ldD ty ((l[i]?.getD default).cells.drop c)).2)
  | .dead => (False, .unk)
  | .gone => (False, .unk)

def mkD (like : D) (cs : List D) : D :=
  match like with
  | .ag _ => .ag cs
  | _ => match cs with | [x] => x | _ => .ag cs

def stOb (ob : Ob) (sz i c : Nat) (vs : List PV) : Prop × Ob :=
  match ob with
  | .cells cs => (i * sz + c + vs.length ≤ cs.length, .cells (splice cs (i * sz + c) vs))
  | .row sz' l => match vs.mapM PV.asD with
    | some ds => (sz = sz' ∧ i < l.length ∧ c + ds.length ≤ (l[i]?.getD default).cells.length, .row sz' (l.set i (mkD (l[i]?.getD default) (splice (l[i]?.getD default).cells c ds))))
    | none => (False, .dead)
  | .dead => (False, .dead)
  | .gone => (False, .gone)

def fillP (pl : Nat → Option (Nat × Nat)) (cells : List PV) : List (Nat × PV) → Option (List PV)
  | [] => some cells
  | (i, x) :: rest =>
    match pl i, x.cells? with
    | some (off, sz), some cs => if cs.length = sz ∧ off + sz ≤ cells.length then fillP pl (splice cells off cs) rest else none
    | _, _ => none

def D.notTup : D → Bool
  | .tup _ => false
  | _ => true

/-- The elements of a slice's literal. -/
def elemsF (sz : Nat) : List D → List (Nat × Option D) → Option (List D)
  | l, [] => some l
  | l, (i, some d) :: r => if i < l.length ∧ d.cells.length = sz ∧ d.notTup = true then elemsF sz (l.set i d) r else none
  | _, (_, none) :: _ => none

def binI (op : BinOp) (a b : Int) : Prop × Value :=
  match op with
  | .add => (True, .int .i64 (IntKind.i64.wrap (a + b)))
  | .sub => (True, .int .i64 (IntKind.i64.wrap (a - b)))
  | .mul => (True, .int .i64 (IntKind.i64.wrap (a * b)))
  | .quo => (b ≠ 0, .int .i64 (IntKind.i64.wrap (a.tdiv b)))
  | .rem => (b ≠ 0, .int .i64 (a.tmod b))
  | .shl => (0 ≤ b, .int .i64 (IntKind.i64.wrap (a * 2 ^ (min b.toNat 64))))
  | .shr => (0 ≤ b, .int .i64 (a.fdiv (2 ^ (min b.toNat 64))))
  | .and => (True, .int .i64 (IntKind.i64.wrap ((BitVec.ofInt 64 a &&& BitVec.ofInt 64 b).toNat : Int)))
  | .or => (True, .int .i64 (IntKind.i64.wrap ((BitVec.ofInt 64 a ||| BitVec.ofInt 64 b).toNat : Int)))
  | .xor => (True, .int .i64 (IntKind.i64.wrap ((BitVec.ofInt 64 a ^^^ BitVec.ofInt 64 b).toNat : Int)))
  | .andNot => (True, .int .i64 (IntKind.i64.wrap ((BitVec.ofInt 64 a &&& ~~~BitVec.ofInt 64 b).toNat : Int)))
  | .eql => (True, .bool (decide (a = b)))
  | .neq => (True, .bool (!decide (a = b)))
  | .lss => (True, .bool (decide (a < b)))
  | .leq => (True, .bool (decide (a ≤ b)))
  | .gtr => (True, .bool (decide (b < a)))
  | .geq => (True, .bool (decide (b ≤ a)))

/-- Equal cells (integers). -/
def eqCells : List PV → List PV → Option Bool
  | [], [] => some true
  | .d (.sc (.int .i64 a)) :: r, .d (.sc (.int .i64 b)) :: s => (eqCells r s).map (decide (a = b) && ·)
  | _, _ => none

def PV.agg? : PV → Option (List PV)
  | .ag cs => some cs
  | .d (.ag cs) => some (cs.map .d)
  | _ => none

def lenPV : PV → Option Nat
  | .d (.sl l) => some l.length
  | .ref _ _ _ len _ => some len
  | .nilS => some 0
  | .z0 => some 0
  | _ => none
end Go.PS
