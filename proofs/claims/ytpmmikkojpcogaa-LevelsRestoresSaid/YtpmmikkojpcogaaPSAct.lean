/- The relation between symbolic and real states, calls as functions on data, the effect of each operation, and a region's run. -/
import Derived.Test.YtpmmikkojpcogaaPSDefs
namespace Go.PS
open Go

/-- Data as it lies in memory; no block that it needs is in X. -/
inductive D.At (w : World) (X : Nat → Prop) : D → Value → Prop
  | sc (v : Value) (h : v.oneCell' = true) : D.At w X (.sc v) v
  | ag (cs : List D) (arr : Array Value) (hsz : arr.size = cs.length) (hone : ∀ (j : Nat) (v : Value), arr[j]? = some v → v.oneCell' = true)
      (h : ∀ (j : Nat) d v, cs[j]? = some d → arr[j]? = some v → D.At w X d v) : D.At w X (.ag cs) (.agg arr)
  | slnil (base : Option Addr) (cap : Nat) : D.At w X (.sl []) (.slice base 0 cap)
  | sl (l : List D) (b off cap sz : Nat) (hl : l.length ≤ cap) (hc : cap ≤ maxLen)
      (hsz : ∀ d, d ∈ l → d.cells.length = sz)
      (vals : Nat → Nat → Value)
      (hv : ∀ (i : Nat) d (j : Nat) c, l[i]? = some d → d.cells[j]? = some c → w.cell? ⟨b, off + i * sz + j, none⟩ = some (vals i j) ∧ (vals i j).oneCell' = true ∧ ¬ X b)
      (h : ∀ (i : Nat) d (j : Nat) c, l[i]? = some d → d.cells[j]? = some c → D.At w X c (vals i j)) :
      D.At w X (.sl l) (.slice (some ⟨b, off, none⟩) l.length cap)
  | tup (cs : List D) (arr : Array Value) (hsz : arr.size = cs.length)
      (h : ∀ (j : Nat) d v, cs[j]? = some d → arr[j]? = some v → D.At w X d v) : D.At w X (.tup cs) (.tuple arr)
  | pt (cs : List D) (b off : Nat)
      (vals : Nat → Value)
      (hv : ∀ (j : Nat) c, cs[j]? = some c → w.cell? ⟨b, off + j, none⟩ = some (vals j) ∧ (vals j).oneCell' = true ∧ ¬ X b)
      (h : ∀ (j : Nat) c, cs[j]? = some c → D.At w X c (vals j)) :
      D.At w X (.pt cs) (.pointer (some ⟨b, off, none⟩))
  | fn (f : FuncId) (cs : List D) (arr : Array Value) (hsz : arr.size = cs.length)
      (h : ∀ (j : Nat) d v, cs[j]? = some d → arr[j]? = some v → D.At w X d v) : D.At w X (.fn f cs) (.func (.func f) #[] arr)

def AtAll (w : World) (X : Nat → Prop) (ds : List D) (vs : Array Value) : Prop :=
  vs.size = ds.length ∧ ∀ (j : Nat) d v, ds[j]? = some d → vs[j]? = some v → D.At w X d v

/-- A function that is entered when it is called. -/
def Callable (P : Program) (f : FuncId) : Prop := ∃ fn, P.funcs[f]? = some fn ∧ fn.body.isNone = false ∧ (fn.name == "runtime.NumGoroutine") = false

/-- A function, called with data, returns data, and leaves what was there as it was. -/
def CallsTo (P : Program) (f : FuncId) (args : List D) (r : D) : Prop :=
  Callable P f ∧ ∀ (w : World) (X : Nat → Prop) (vs : Array Value), (∀ b, X b → b < w.heap.size) → AtAll w X args vs →
    Calls P f vs w fun e w' => ∃ v, e = .returned v ∧ D.At w' X r v ∧ RowKit.Below w.heap.size w w'

/-- Conditions on one bound: room for what append makes. -/
def roomy (n : Nat) : Prop := n ≤ 1099511627776

/-- What append reads: the elements of data, or of a row of the state's own. -/
def srcD (objs : Nat → Ob) : PV → Option (List D)
  | .d (.sl l) => some l
  | .nilS => some []
  | .z0 => some []
  | .ref o sz off len _ => match objs o with
      | .row sz' l => if sz = sz' ∧ off + len ≤ l.length then some ((l.drop off).take len) else none
      | _ => none
  | _ => none
def srcR : PV → List Nat
  | .ref o _ _ _ _ => [o]
  | _ => []

/-- Append: the result lies under a new name; the old object, if there was one, is gone. -/
def semAppend (objs : Nat → Ob) (dst : Option Nat) (st xt ety : TyI) (s x : PV) : CE :=
  match srcD objs x, dst with
  | some xs, some t =>
    match s with
    | .ref o sz off len _ => match objs o with
      | .row sz' l => (st.kind = 1 ∧ xt.kind = 1 ∧ ety.zok = true ∧ ety.bytes ≤ 128 ∧ (∀ d, d ∈ xs → d.cells.length = ety.size) ∧ objs t = .dead ∧ sz = ety.size ∧ sz = sz' ∧ off = 0 ∧ len ≤ l.length ∧ roomy (len + xs.length),
          { val := .ref t sz 0 (len + xs.length) (len + xs.length), wr := [(t, .row sz' (l.take len ++ xs)), (o, .gone)], rd := srcR x })
      | _ => .no
    | .nilS => (st.kind = 1 ∧ xt.kind = 1 ∧ ety.zok = true ∧ ety.bytes ≤ 128 ∧ (∀ d, d ∈ xs → d.cells.length = ety.size) ∧ objs t = .dead ∧ roomy xs.length,
          { val := .ref t ety.size 0 xs.length xs.length, wr := [(t, .row ety.size xs)], rd := srcR x })
    | .z0 => (st.kind = 1 ∧ xt.kind = 1 ∧ ety.zok = true ∧ ety.bytes ≤ 128 ∧ (∀ d, d ∈ xs → d.cells.length = ety.size) ∧ objs t = .dead ∧ roomy xs.length,
          { val := .ref t ety.size 0 xs.length xs.length, wr := [(t, .row ety.size xs)], rd := srcR x })
    | _ => .no
  | _, _ => .no

def semBuiltin (P : Program) (objs : Nat → Ob) (dst : Option Nat) (b : Builtin) (tys : List TypeId) (xs : List PV) : CE :=
  match b, tys, xs with
  | .len, [t], [x] => match lenPV x with
    | some n => ((tyi P t).kind = 1, .v (.int n))
    | none => .no
  | .min, _, [.d (.sc (.int .i64 a)), .d (.sc (.int .i64 c))] => .v (.int (if c < a then c else a))
  | .max, _, [.d (.sc (.int .i64 a)), .d (.sc (.int .i64 c))] => .v (.int (if a < c then c else a))
  | .min, _, [.d (.sc (.int .i64 a)), .d (.sc (.int .i64 c)), .d (.sc (.int .i64 e))] => .v (.int (if e < (if c < a then c else a) then e else (if c < a then c else a)))
  | .max, _, [.d (.sc (.int .i64 a)), .d (.sc (.int .i64 c)), .d (.sc (.int .i64 e))] => .v (.int (if (if a < c then c else a) < e then e else (if a < c then c else a)))
  | .append, [t, u], [s, x] => semAppend objs dst (tyi P t) (tyi P u) (tyi P (tyi P t).elem) s x
  | _, _, _ => .no

def semBox (objs : Nat → Ob) (dst : Option Nat) (cs : Option (List PV)) : CE :=
  match dst, cs with
  | some t, some cs => (objs t = .dead, { val := .ptr t 0 0 0, wr := [(t, .cells cs)] })
  | _, _ => .no

def semLoad (ty : TyI) (objs : Nat → Ob) (a : PV) : CE :=
  match a with
  | .d (.pt cs) => (ty.ok = true ∧ (ldD ty cs).1, .v (.d (ldD ty cs).2))
  | .ptr o sz i c => (ty.ok = true ∧ (ldOb ty (objs o) sz i c).1, { val := (ldOb ty (objs o) sz i c).2, rd := [o] })
  | _ => .no

def semStore (ty : TyI) (objs : Nat → Ob) (a : PV) (x : Option (List PV)) : CE :=
  match a, x with
  | .ptr o sz i c, some vs => (vs.length = ty.size ∧ ty.ok = true ∧ (stOb (objs o) sz i c vs).1, { val := .unk, wr := [(o, (stOb (objs o) sz i c vs).2)] })
  | _, _ => .no

def semField (P : Program) (ty : TyI) (f : Nat) (x : PV) : CE :=
  match ty.fields[f]? with
  | some (off, ft) =>
    match x with
    | .d (.pt cs) => (ty.kind = 3 ∧ P.cellsOf ft ≠ 0, .v (.d (.pt (cs.drop off))))
    | .ptr o sz i c => (ty.kind = 3 ∧ P.cellsOf ft ≠ 0, .v (.ptr o sz i (c + off)))
    | _ => .no
  | none => .no

def semIndex (ty : TyI) (esz : Nat) (x i : PV) : CE :=
  match x, i with
  | .d (.sl l), .d (.sc (.int .i64 n)) => (ty.kind = 1 ∧ esz ≠ 0 ∧ 0 ≤ n ∧ n.toNat < l.length ∧ (l[n.toNat]?.getD default).cells.length = esz, .v (.d (.pt (l[n.toNat]?.getD default).cells)))
  | .ref o sz off len _, .d (.sc (.int .i64 n)) => (ty.kind = 1 ∧ esz ≠ 0 ∧ 0 ≤ n ∧ n.toNat < len ∧ sz = esz, .v (.ptr o sz (off + n.toNat) 0))
  | _, _ => .no

/-- Is a slice nil? (Not known of one without elements.) -/
def nilEq : PV → Option PV
  | .nilS => some (.bool true)
  | .z0 => some .ab
  | .d (.sl l) => some (if l.isEmpty then .ab else .bool false)
  | .ref _ _ _ len cap => some (if len = 0 ∧ cap = 0 then .ab else .bool false)
  | _ => none
def notPV : PV → PV
  | .d (.sc (.bool b)) => .bool (!b)
  | x => x

def semBin (op : BinOp) (ty : TyI) (x y : PV) : CE :=
  match x, y with
  | x, .nilS => match nilEq x with
    | some r => (ty.kind = 1 ∧ (op = .eql ∨ op = .neq), .v (if op = .eql then r else notPV r))
    | none => .no
  | .d (.sc (.int .i64 a)), .d (.sc (.int .i64 b)) => ((binI op a b).1, .v (.d (.sc (binI op a b).2)))
  | .d (.sc (.int .i64 a)), .d (.sc (.int .u64 b)) => ((op = .shl ∨ op = .shr) ∧ (binI op a b).1, .v (.d (.sc (binI op a b).2)))
  | .d (.sc (.bool a)), .d (.sc (.bool b)) => (ty.kind = 6 ∧ (op = .eql ∨ op = .neq), .v (.bool (if op = .eql then decide (a = b) else !decide (a = b))))
  | p, q => match p.agg?, q.agg? with
    | some cs, some ds => match eqCells cs ds with
      | some t => (ty.peq = true ∧ cs.length = ty.size ∧ (op = .eql ∨ op = .neq), .v (.bool (if op = .eql then t else !t)))
      | none => .no
    | _, _ => .no

def semUn (op : UnOp) (x : PV) : CE :=
  match op, x with
  | .not, .d (.sc (.bool b)) => .v (.bool (!b))
  | .not, .ab => .v .ab
  | .neg, .d (.sc (.int .i64 a)) => .v (.int (IntKind.i64.wrap (-a)))
  | _, _ => .no

def semPick (c a b : PV) : CE :=
  match c with
  | .d (.sc (.bool t)) => .v (if t then a else b)
  | _ => .no

def bndOf (dflt : Nat) : Option PV → Option Int
  | none => some dflt
  | some (.d (.sc (.int .i64 n))) => some n
  | _ => none

def subPV (l h : Nat) : PV → PV
  | .d (.sl xs) => .d (.sl ((xs.take h).drop l))
  | .ref o sz off _ cap => .ref o sz (off + l) (h - l) (cap - l)
  | .nilS => .nilS
  | .z0 => .z0
  | x => x

def subOk (esz : Nat) : PV → Prop
  | .d (.sl xs) => ∀ d, d ∈ xs → d.cells.length = esz
  | .ref _ sz _ _ _ => sz = esz
  | _ => True

/-- A slice of a slice, within its length; of a full slice expression only the empty one. -/
def semSlice (ty : TyI) (esz : Nat) (x : PV) (lo hi mx : Option PV) : CE :=
  match lenPV x, bndOf 0 lo with
  | some len, some l => match bndOf len hi, mx with
    | some h, none => (ty.kind = 1 ∧ esz ≠ 0 ∧ 0 ≤ l ∧ l ≤ h ∧ h ≤ len ∧ subOk esz x, .v (subPV l.toNat h.toNat x))
    | some h, some (.d (.sc (.int .i64 m))) => (ty.kind = 1 ∧ esz ≠ 0 ∧ hi.isSome = true ∧ l = 0 ∧ h = 0 ∧ m = 0, .v .z0)
    | _, _ => .no
  | _, _ => .no

def semExtract (x : PV) (i : Nat) : CE :=
  match x with
  | .tup vs => match vs[i]? with
    | some v => .v v
    | none => .no
  | .d (.tup vs) => match vs[i]? with
    | some v => .v (.d v)
    | none => .no
  | _ => .no

def semBuild (ty : TyI) (ps : List (Nat × PV)) : CE :=
  match fillP (ty.places[·]?) (ty.zero.map cellPV) ps with
  | some cs => (ty.zok = true ∧ ty.bok = true, .v (.ag cs))
  | none => .no

def D.ofCells (agg : Bool) (cs : List D) : D := if agg then .ag cs else match cs with | [x] => x | _ => .ag cs

def cellD : Value → D
  | .slice none 0 0 => .sl []
  | v => .sc v

def semBuildSlice (objs : Nat → Ob) (dst : Option Nat) (own : Bool) (ty ety : TyI) (n : Nat) (ps : List (Nat × PV)) : CE :=
  match elemsF ety.size (List.replicate n (.ofCells ety.agg (ety.zero.map cellD))) (ps.map fun p => (p.1, toD objs 4 p.2)) with
  | some l => if own then match dst with
      | some t => (ty.kind = 1 ∧ ety.zok = true ∧ n * ety.size ≤ 16777216 ∧ (ps.map (·.2)).flatMap (PV.refs objs 4) = [] ∧ objs t = .dead, { val := .ref t ety.size 0 n n, wr := [(t, .row ety.size l)] })
      | none => .no
    else (ty.kind = 1 ∧ ety.zok = true ∧ n * ety.size ≤ 16777216 ∧ (ps.map (·.2)).flatMap (PV.refs objs 4) = [], { val := .d (.sl l) })
  | none => .no

def semAlloc (ty : TyI) (objs : Nat → Ob) (dst : Option Nat) : CE :=
  match dst with
  | some t => (ty.zok = true ∧ objs t = .dead, { val := .ptr t 0 0 0, wr := [(t, .cells (ty.zero.map cellPV))] })
  | none => .no

/-- Zero elements that are nil slices. -/
def nilZero : List Value → Bool
  | [.slice none 0 0] => true
  | _ => false

/-- make([]T, n): a row of zero elements; of slices: cells, all nil. -/
def semMakeSlice (ty ety : TyI) (objs : Nat → Ob) (dst : Option Nat) (l c : PV) : CE :=
  match dst, l, c with
  | some t, .d (.sc (.int .i64 n)), .d (.sc (.int .i64 m)) =>
    (ty.kind = 1 ∧ ety.zok = true ∧ n = m ∧ 0 ≤ n ∧ (ety.bytes : Int) * n ≤ 281474976710656 ∧ n ≤ 9223372036854775807 ∧ objs t = .dead,
      { val := .ref t ety.size 0 n.toNat n.toNat, wr := [(t, if nilZero ety.zero = true then .cells (List.replicate n.toNat .nilS) else .row ety.size (List.replicate n.toNat (.ofCells ety.agg (ety.zero.map cellD))))] })
  | _, _, _ => .no

/-- A pointer that is looked at: it is not nil. -/
def semNilCheck (x : PV) : CE :=
  match x with
  | .d (.pt cs) => .v (.d (.pt cs))
  | .ptr o sz i c => .v (.ptr o sz i c)
  | _ => .no

/-- A function with what it captures. -/
def semMakeFunc (fn : Fn) (first : List PV) (caps : List PV) : CE :=
  match fn, first with
  | .func f, [] => .v (.fn f caps)
  | _, _ => .no

def ownAt (own : Nat → Bool) : Option Nat → Bool
  | some t => own t
  | none => false

/-- What an operation that is no call of a Go function asks and does. ('own': whether the slice of a literal stays the state's own.) -/
def sem (P : Program) (own : Nat → Bool) (ev : Operand → PV) (objs : Nat → Ob) (dst : Option Nat) (op : Op) : CE :=
  match op with
  | .move x => .v (ev x)
  | .assign x => .v (ev x)
  | .pick c a b => semPick (ev c) (ev a) (ev b)
  | .alloc T => semAlloc (tyi P T) objs dst
  | .box _ x => semBox objs dst (ev x).cells?
  | .build T ps => semBuild (tyi P T) (ps.toList.map fun p => (p.1, ev p.2))
  | .buildSlice T n ps => semBuildSlice objs dst (ownAt own dst) (tyi P T) (tyi P (tyi P T).elem) n (ps.toList.map fun p => (p.1, ev p.2))
  | .load T a => semLoad (tyi P T) objs (ev a)
  | .store T a x => semStore (tyi P T) objs (ev a) (ev x).cells?
  | .fieldAddr T x f => semField P (tyi P T) f (ev x)
  | .indexAddr T x i => semIndex (tyi P T) (P.cellsOf (tyi P T).elem) (ev x) (ev i)
  | .binOp op T x y _ => semBin op (tyi P T) (ev x) (ev y)
  | .unOp op _ x => semUn op (ev x)
  | .extract x i => semExtract (ev x) i
  | .nilCheck x => semNilCheck (ev x)
  | .slice T x lo hi mx => semSlice (tyi P T) (P.cellsOf (tyi P T).elem) (ev x) (lo.map ev) (hi.map ev) (mx.map ev)
  | .makeSlice T l c => semMakeSlice (tyi P T) (tyi P (tyi P T).elem) objs dst (ev l) (ev c)
  | .makeFunc fn first caps => semMakeFunc fn (first.toList.map ev) (caps.toList.map ev)
  | .call c => match c.callee with
    | .builtin b => semBuiltin P objs dst b c.argTypes.toList (c.args.toList.map ev)
    | _ => .no
  | _ => .no

/-- The call of a Go function: who is called, and with what data. -/
def CallCond (P : Program) (objs : Nat → Ob) (f : PV) (xs : List PV) (r : D) : Prop :=
  ∃ g caps args, f = .d (.fn g caps) ∧ xs.mapM (toD objs 4) = some args ∧ CallsTo P g (args ++ caps) r ∧ (xs.flatMap (PV.refs objs 4) = [] ∨ r.flat 4 = true)

mutual
/-- Renaming objects. -/
def PV.ren (g : Nat → Nat) : PV → PV
  | .ref o sz off len cap => .ref (g o) sz off len cap
  | .ptr o sz i c => .ptr (g o) sz i c
  | .ag cs => .ag (PV.renL g cs)
  | .tup cs => .tup (PV.renL g cs)
  | .fn f cs => .fn f (PV.renL g cs)
  | .d x => .d x
  | .nilS => .nilS
  | .z0 => .z0
  | .unk => .unk
  | .und => .und
  | .ab => .ab
def PV.renL (g : Nat → Nat) : List PV → List PV
  | [] => []
  | c :: cs => PV.ren g c :: PV.renL g cs
end

theorem PV.renL_eq (g : Nat → Nat) : ∀ cs : List PV, PV.renL g cs = cs.map (PV.ren g)
  | [] => rfl
  | c :: cs => by rw [PV.renL, PV.renL_eq g cs]; rfl

def Ob.ren (g : Nat → Nat) : Ob → Ob
  | .cells cs => .cells (cs.map (PV.ren g))
  | .dead => .dead
  | .gone => .gone
  | .row sz l => .row sz l

def caps? : PV → Option (FuncId × List PV)
  | .d (.fn g caps) => some (g, caps.map .d)
  | .fn g caps => some (g, caps)
  | _ => none

/-- The objects that a call left, as the caller names them. -/
def renM (g : Nat → Nat) (M : List (Nat × Ob)) : List (Nat × Ob) := M.map fun q => (g q.1, q.2.ren g)

/-- How many cells a block has. -/
def bsz (w : World) (b : Nat) : Nat := match w.heap[b]? with | some (.cells c _ _) => c.size | _ => 0

/-- The blocks that data may not touch: those that the caller keeps, and the state's own. -/
def ownX (ι : Nat → Option Nat) (X : Nat → Prop) : Nat → Prop := fun b => X b ∨ ∃ o, ι o = some b

inductive PV.At (w : World) (ι : Nat → Option Nat) (X : Nat → Prop) : PV → Value → Prop
  | d (x : D) (v : Value) (h : D.At w (ownX ι X) x v) : PV.At w ι X (.d x) v
  | ref (o sz off len cap capr b : Nat) (hι : ι o = some b) (hl : len ≤ capr) (hc : cap ≤ capr) (hm : capr ≤ maxLen) (hs : (off + capr) * sz = bsz w b) :
      PV.At w ι X (.ref o sz off len cap) (.slice (some ⟨b, off * sz, none⟩) len capr)
  | ref0 (o sz off : Nat) (base : Option Addr) : PV.At w ι X (.ref o sz off 0 0) (.slice base 0 0)
  | ptr (o sz i c b : Nat) (hι : ι o = some b) : PV.At w ι X (.ptr o sz i c) (.pointer (some ⟨b, i * sz + c, none⟩))
  | nilS : PV.At w ι X .nilS (.slice none 0 0)
  | z0 (base : Option Addr) : PV.At w ι X .z0 (.slice base 0 0)
  | ag (cs : List PV) (arr : Array Value) (hsz : arr.size = cs.length) (hone : ∀ (j : Nat) (v : Value), arr[j]? = some v → v.oneCell' = true)
      (h : ∀ (j : Nat) d v, cs[j]? = some d → arr[j]? = some v → PV.At w ι X d v) : PV.At w ι X (.ag cs) (.agg arr)
  | tup (cs : List PV) (arr : Array Value) (hsz : arr.size = cs.length)
      (h : ∀ (j : Nat) d v, cs[j]? = some d → arr[j]? = some v → PV.At w ι X d v) : PV.At w ι X (.tup cs) (.tuple arr)
  | fn (f : FuncId) (cs : List PV) (arr : Array Value) (hsz : arr.size = cs.length)
      (h : ∀ (j : Nat) d v, cs[j]? = some d → arr[j]? = some v → PV.At w ι X d v) : PV.At w ι X (.fn f cs) (.func (.func f) #[] arr)
  | unk (v : Value) : PV.At w ι X .unk v
  | und : PV.At w ι X .und undef
  | ab (b : Bool) : PV.At w ι X .ab (.bool b)

/-- An object in memory. -/
inductive Ob.At (w : World) (ι : Nat → Option Nat) (X : Nat → Prop) (o : Nat) : Ob → Prop
  | dead (h : ι o = none) : Ob.At w ι X o .dead
  | gone : Ob.At w ι X o .gone
  | cells (cs : List PV) (b : Nat) (c : Array Value) (T : TypeId) (hι : ι o = some b) (hb : w.heap[b]? = some (.cells c T (0, 0))) (hsz : c.size = cs.length)
      (hone : ∀ (j : Nat) (v : Value), c[j]? = some v → v.oneCell' = true)
      (h : ∀ (j : Nat) p v, cs[j]? = some p → c[j]? = some v → PV.At w ι X p v) : Ob.At w ι X o (.cells cs)
  | row0 (sz : Nat) (h : ι o = none) : Ob.At w ι X o (.row sz [])
  | row (sz : Nat) (l : List D) (b : Nat) (c : Array Value) (T : TypeId) (hι : ι o = some b) (hb : w.heap[b]? = some (.cells c T (0, 0))) (hsz : l.length * sz ≤ c.size)
      (hcl : ∀ d, d ∈ l → d.cells.length = sz)
      (hone : ∀ (j : Nat) (v : Value), c[j]? = some v → v.oneCell' = true)
      (h : ∀ (i : Nat) d (j : Nat) e v, l[i]? = some d → d.cells[j]? = some e → c[i * sz + j]? = some v → D.At w (ownX ι X) e v) : Ob.At w ι X o (.row sz l)

/-! ### Lists of slots and of objects. -/
def envOf : List (Nat × PV) → Nat → PV
  | [] => fun _ => .unk
  | (i, v) :: r => upd i v (envOf r)
def obOf : List (Nat × Ob) → Nat → Ob
  | [] => fun _ => .dead
  | (i, v) :: r => upd i v (obOf r)

/-- A value names these objects alone. -/
def PV.only (L : List Nat) : Nat → PV → Bool
  | 0, _ => false
  | _ + 1, .d _ => true
  | _ + 1, .unk => true
  | _ + 1, .und => true
  | _ + 1, .ab => true
  | _ + 1, .nilS => true
  | _ + 1, .z0 => true
  | _ + 1, .ref o _ _ _ _ => L.contains o
  | _ + 1, .ptr o _ _ _ => L.contains o
  | n + 1, .ag cs => cs.all (PV.only L n)
  | n + 1, .tup cs => cs.all (PV.only L n)
  | n + 1, .fn _ cs => cs.all (PV.only L n)
def Ob.only (L : List Nat) : Ob → Bool
  | .cells cs => cs.all (PV.only L 4)
  | _ => true


/-- A function that is handed objects: what it returns, and what it leaves of them. Those that it has made bear numbers from 2000 on (listed in M as dead). Those that it was handed stay in their blocks. -/
def CallsM (P : Program) (f : FuncId) (args : List PV) (M : List (Nat × Ob)) (r : PV) (M' : List (Nat × Ob)) : Prop :=
  Callable P f ∧ ∀ (w : World) (ι : Nat → Option Nat) (X : Nat → Prop) (vs : Array Value),
    (∀ b, X b → b < w.heap.size ∧ ∀ o, ι o ≠ some b) → (∀ o o' b, obOf M o ≠ .gone → obOf M o' ≠ .gone → ι o = some b → ι o' = some b → o = o') → (∀ o b, ι o = some b → b < w.heap.size) →
    vs.size = args.length → (∀ (j : Nat) p v, args[j]? = some p → vs[j]? = some v → PV.At w ι X p v) → (∀ o, Ob.At w ι X o (obOf M o)) → (∀ o b, ι o = some b → o ∈ M.map (·.1)) →
    Calls P f vs w fun e w' => ∃ v ι', e = .returned v ∧ PV.At w' ι' X r v ∧ (∀ o, Ob.At w' ι' X o (obOf M' o)) ∧ (∀ o b, ι' o = some b → o ∈ M'.map (·.1)) ∧
      (∀ o o' b, obOf M' o ≠ .gone → obOf M' o' ≠ .gone → ι' o = some b → ι' o' = some b → o = o') ∧ (∀ o b, ι' o = some b → ¬ X b ∧ ((∃ o', ι o' = some b) ∨ w.heap.size ≤ b) ∧ b < w'.heap.size) ∧
      w'.os = w.os ∧ w'.tape = w.tape ∧ w'.output = w.output ∧ w.heap.size ≤ w'.heap.size ∧
      (∀ b, b < w.heap.size → (∀ o, ι o ≠ some b) → w'.heap[b]? = w.heap[b]?) ∧
      (∀ o b, ι o = some b → ι' o = some b ∧ bsz w' b = bsz w b)

/-- Data that needs no memory, in values and objects. -/
def PV.flatP : Nat → PV → Bool
  | 0, _ => false
  | _ + 1, .d x => x.flat 4
  | n + 1, .ag cs => cs.all (PV.flatP n)
  | n + 1, .tup cs => cs.all (PV.flatP n)
  | n + 1, .fn _ cs => cs.all (PV.flatP n)
  | _ + 1, .ref _ _ _ _ _ => true
  | _ + 1, .ptr _ _ _ _ => true
  | _ + 1, .nilS => true
  | _ + 1, .z0 => true
  | _ + 1, .unk => true
  | _ + 1, .und => true
  | _ + 1, .ab => true
def Ob.flatP : Ob → Prop
  | .cells cs => (cs.all (PV.flatP 4)) = true
  | .row _ l => ∀ d, d ∈ l → ∀ c, c ∈ d.cells → c.flat 4 = true
  | .dead => True
  | .gone => True

/-- The caller's values are what the contract names: an object's name, or data (which may be an object's content, if 'fl' says that the call's outcome needs no memory of data). -/
def ArgFit (objs : Nat → Ob) (g : Nat → Nat) (fl : Prop) : List PV → List PV → Prop
  | [], [] => True
  | x :: xs, p :: ps => (x = p.ren g ∨ ∃ d, p = .d d ∧ toD objs 4 x = some d ∧ (x.refs objs 4 = [] ∨ fl)) ∧ ArgFit objs g fl xs ps
  | _, _ => False

/-- What is asked of a call's outcome if objects are handed over as data. -/
def FlatOut (r : PV) (M M' : List (Nat × Ob)) : Prop := r.flatP 4 = true ∧ (∀ q ∈ M, q.2.flatP) ∧ ∀ q ∈ M', q.2.flatP

/-- The call of a Go function that is handed objects. g: the callee's names as the caller names them. -/
structure CallCondM (P : Program) (objs : Nat → Ob) (f : PV) (xs : List PV) (e : Eff) : Prop where
  ex : ∃ (h : FuncId) (caps args : List PV) (M M' : List (Nat × Ob)) (r : PV) (g : Nat → Nat) (fl : Prop),
    caps? f = some (h, caps) ∧ ArgFit objs g fl (xs ++ caps) args ∧ CallsM P h args M r M' ∧
    M'.map (·.1) = M.map (·.1) ∧ (args.all (PV.only (M.map (·.1)) 4)) = true ∧ (M.all fun q => q.2.only (M.map (·.1))) = true ∧
    r.only (M.map (·.1)) 4 = true ∧ (M'.all fun q => q.2.only (M.map (·.1))) = true ∧
    (M.map fun q => g q.1).Nodup ∧ (∀ q ∈ M, objs (g q.1) = q.2.ren g) ∧
    (∀ q ∈ M, 2000 ≤ q.1 → q.2 = .dead) ∧ (∀ q ∈ M, q.2 ≠ .gone) ∧
    (fl → FlatOut r M M' ∧ ∀ x ∈ xs ++ caps, ∀ o ∈ x.refs objs 4, o ∉ M.map fun q => g q.1) ∧
    e = { val := r.ren g, wr := renM g M', rd := (xs ++ caps).flatMap (PV.refs objs 4) }

/-- A footprint: what was read, what was written. -/
abbrev Foot := List Nat × List Nat

def Eff.foot (e : Eff) : Foot := (e.rd, e.wr.map (·.1))

def St.put (S : St) (dst : Option Nat) (x : PV) : St := { env := match dst with | some t => upd t x S.env | none => S.env, objs := S.objs }

theorem app_v (S : St) (dst : Option Nat) (x : PV) : S.app dst { val := x } = S.put dst x := by
  cases dst <;> rfl
theorem app_rd (S : St) (dst : Option Nat) (x : PV) (rd : List Nat) : S.app dst { val := x, rd := rd } = S.put dst x := by
  cases dst <;> rfl

def Oper.goCall (o : Oper) : Bool := match o.op with
  | .call { callee := .value _, .. } => true
  | _ => false

/-- One operation of a region. -/
def wpOp (P : Program) (own : Nat → Bool) (o : Oper) (S : St) (fs : List Foot) (k : St → List Foot → Prop) : Prop :=
  match o.op with
  | .call { callee := .value f, args, .. } => (∃ r, CallCond P S.objs (S.ev f) (args.toList.map S.ev) r ∧
      k (S.put o.dst (.d r)) (((args.toList.map S.ev).flatMap (PV.refs S.objs 4), []) :: fs)) ∨
      ∃ e, CallCondM P S.objs (S.ev f) (args.toList.map S.ev) e ∧ k (S.app o.dst e) (e.foot :: fs)
  | op => (sem P own S.ev S.objs o.dst op).1 ∧ k (S.app o.dst (sem P own S.ev S.objs o.dst op).2) ((sem P own S.ev S.objs o.dst op).2.foot :: fs)

def grd (all : List Oper) (S : St) (j : Nat) : Option (Option Bool) :=
  match (all[j]?).bind (·.dst) with
  | some t => match S.env t with
    | .d (.sc (.bool b)) => some (some b)
    | .und => some none
    | _ => none
  | none => none

/-- The run of a region in the text's order. -/
def wpRun (P : Program) (own : Nat → Bool) (all : List Oper) : List Oper → St → List Foot → (St → List Foot → Prop) → Prop
  | [], S, fs, K => K S fs
  | o :: rest, S, fs, K =>
    match o.guard with
    | none => wpOp P own o S fs fun S' fs' => wpRun P own all rest S' fs' K
    | some (j, want) =>
      match grd all S j with
      | some g => if g = some want then wpOp P own o S fs fun S' fs' => wpRun P own all rest S' fs' K
        else wpRun P own all rest (S.put o.dst .und) (([], []) :: fs) K
      | none => False

section rules
variable {P : Program} {own : Nat → Bool} {all rest : List Oper} {S : St} {fs : List Foot} {K : St → List Foot → Prop} {dst : Option Nat} {ty : TypeId} {pos : String} {af : Array Edge}
@[go_sem] theorem run_nil : wpRun P own all [] S fs K = K S fs := rfl
/-- An operation that is no call of a Go function. -/
theorem run_op {op : Op} (h : (∃ f a b, op = .call ⟨.value f, a, b⟩) → False) : wpRun P own all (⟨dst, op, ty, pos, af, none⟩ :: rest) S fs K =
    ((sem P own S.ev S.objs dst op).1 ∧ wpRun P own all rest (S.app dst (sem P own S.ev S.objs dst op).2) ((sem P own S.ev S.objs dst op).2.foot :: fs) K) := by
  simp only [wpRun, wpOp]
  split
  · exact (h ⟨_, _, _, rfl⟩).elim
  · rfl
end rules
end Go.PS
