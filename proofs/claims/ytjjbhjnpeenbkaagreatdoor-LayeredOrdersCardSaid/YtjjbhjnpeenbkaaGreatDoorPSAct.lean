/- The relation between symbolic and real states, calls as functions on data, the effect of each operation, and a region's run. -/
import Derived.Test.YtjjbhjnpeenbkaaGreatDoorPSAlias
set_option linter.unusedSimpArgs false
set_option linter.unusedVariables false
set_option maxHeartbeats 16000000
namespace Go.PS
open Go
inductive D.At (w:World)(X:Nat->Prop):D->Value->Prop
 |sc (v:Value) (h:v.oneCell'=true):D.At w X (.sc v) v
 |ag (cs:List D) (arr:Array Value) (hsz:arr.size=cs.length) (hone:∀(j:Nat) (v:Value),arr[j]? =some v->v.oneCell'=true)
  (h:∀(j:Nat) d v,cs[j]? =some d->arr[j]? =some v->D.At w X d v):D.At w X (.ag cs) (.agg arr)
 |slnil (base:Option Addr) (cap:Nat):D.At w X (.sl []) (.slice base 0 cap)
 |sl (l:List D) (b off cap sz:Nat) (hl:l.length<=cap) (hc:cap<=maxLen)
  (hsz:∀d,d∈l->d.cells.length=sz)
  (vals:Nat->Nat->Value)
  (hv:∀(i:Nat) d (j:Nat) c,l[i]? =some d->d.cells[j]? =some c->w.cell? ⟨b,off+i*sz+j,none⟩=some (vals i j)/\(vals i j).oneCell'=true/\¬X b)
  (h:∀(i:Nat) d (j:Nat) c,l[i]? =some d->d.cells[j]? =some c->D.At w X c (vals i j)):
  D.At w X (.sl l) (.slice (some ⟨b,off,none⟩) l.length cap)
 |tup (cs:List D) (arr:Array Value) (hsz:arr.size=cs.length)
  (h:∀(j:Nat) d v,cs[j]? =some d->arr[j]? =some v->D.At w X d v):D.At w X (.tup cs) (.tuple arr)
 |pt (cs:List D) (b off:Nat)
  (vals:Nat->Value)
  (hv:∀(j:Nat) c,cs[j]? =some c->w.cell? ⟨b,off+j,none⟩=some (vals j)/\(vals j).oneCell'=true/\¬X b)
  (h:∀(j:Nat) c,cs[j]? =some c->D.At w X c (vals j)):
  D.At w X (.pt cs) (.pointer (some ⟨b,off,none⟩))
 |fn (f:FuncId) (cs:List D) (arr:Array Value) (hsz:arr.size=cs.length)
  (h:∀(j:Nat) d v,cs[j]? =some d->arr[j]? =some v->D.At w X d v):D.At w X (.fn f cs) (.func (.func f) #[] arr)
def oa (w:World)(X:Nat->Prop)(Z:List D)(vs:Array Value):Prop:=
 vs.size=Z.length/\∀(j:Nat) d v,Z[j]? =some d->vs[j]? =some v->D.At w X d v
def qu (P:Program)(f:FuncId):Prop:=∃fn,P.funcs[f]? =some fn/\fn.body.isNone=false/\(fn.name== "runtime.NumGoroutine")=false
def ja :List Int:=[0,1,56,2,57,49,28,3,61,58,42,50,38,29,17,4,62,47,59,36,45,43,51,22,53,39,33,30,24,18,12,5,63,55,48,27,60,41,37,16,46,35,44,21,52,32,23,11,54,26,40,15,34,20,31,10,25,14,19,9,13,8,7,6]
def tabs (P:Program):List (Nat×List Int):=match P.globalNamed "math/bits.deBruijn64tab" with
 |some g=>[(g,ja)]
 |none=>[]
def iO (T:List (Nat×List Int))(w:World)(X:Nat->Prop):Prop:=
 ∀q,q∈T->q.1<w.heap.size/\¬X q.1/\∀(j:Nat) v,q.2[j]? =some v->w.cell? ⟨q.1,j,none⟩=some (.int .u8 v)
def lu :List (Nat×List Int)->Nat->List D
 |[],_=>[]
 |(h,l)::r,g=>if h=g then l.map λ v=> .sc (.int .u8 v)else lu r g
def nQ (T:List (Nat×List Int))(g:Nat)(ty:TyI)(Z:Nat)(i:PV):CE:=
 match i with
 | .d (.sc (.int .u64 n))=>(ty.kind=2/\Z=1/\0<=n/\n.toNat<ty.len/\n.toNat<(lu T g).length, .v (.d (.pt ((lu T g).drop n.toNat))))
 |_=> .no
def ah (P:Program)(f:FuncId)(args:List D)(r:D):Prop:=
 qu P f/\∀(w:World) (X:Nat->Prop) (Z:Array Value),(∀b,X b->b<w.heap.size)->oa w X args Z->iO (tabs P) w X->
  Calls P f Z w λ e Y=>∃v,e= .returned v/\D.At Y X r v/\RowKit.Below w.heap.size w Y
def roomy (n:Nat):Prop:=n<=1099511627776
def dB (objs:Nat->Ob):PV->Option (List D)
 | .d (.sl l)=>some l
 | .nilS=>some []
 | .z0=>some []
 | .ref o Y Z len _=>match objs o with
   | .row s l=>if Y=s/\Z+len<=l.length then some ((l.drop Z).take len)else none
   |_=>none
 |_=>none
def ew :PV->List Nat
 | .ref o _ _ _ _=>[o]
 |_=>[]
def ib (objs:Nat->Ob)(dst:Option Nat)(st U Z:TyI)(s x:PV):CE:=
 match dB objs x,dst with
 |some xs,some t=>
  match s with
  | .ref o V X len _=>match objs o with
   | .row Y l=>(st.kind=1/\U.kind=1/\Z.zok=true/\Z.bytes<=128/\(∀d,d∈xs->d.cells.length=Z.size)/\objs t= .dead/\V=Z.size/\V=Y/\X=0/\len<=l.length/\roomy (len+xs.length),
     {val:= .ref t V 0 (len+xs.length) (len+xs.length),wr:=[(t, .row Y (l.take len++xs)),(o, .gone)],rd:=ew x})
   |_=> .no
  | .nilS=>(st.kind=1/\U.kind=1/\Z.zok=true/\Z.bytes<=128/\(∀d,d∈xs->d.cells.length=Z.size)/\objs t= .dead/\roomy xs.length,
     {val:= .ref t Z.size 0 xs.length xs.length,wr:=[(t, .row Z.size xs)],rd:=ew x})
  | .z0=>(st.kind=1/\U.kind=1/\Z.zok=true/\Z.bytes<=128/\(∀d,d∈xs->d.cells.length=Z.size)/\objs t= .dead/\roomy xs.length,
     {val:= .ref t Z.size 0 xs.length xs.length,wr:=[(t, .row Z.size xs)],rd:=ew x})
  |_=> .no
 |_,_=> .no
def rV :Ob->Option PV
 | .cells [p]=>some p
 | .cells []=>none
 | .cells (_::_::_)=>none
 | .dead=>none
 | .gone=>none
 | .row _ _=>none
 | .imap _=>none
 | .iter _ _ _=>none
def ip (objs:Nat->Ob):PV->Option (PV×Nat)
 | .ref o s Z len _=>match rV (objs o)with
  |some p=>if s=1/\Z=0/\len=1 then some (p,o)else none
  |none=>none
 | .d _=>none
 | .ptr _ _ _ _=>none
 | .nilS=>none
 | .z0=>none
 | .ag _=>none
 | .tup _=>none
 | .fn _ _=>none
 | .unk=>none
 | .und=>none
 | .ab=>none
 | .mp _=>none
 | .ifp _ _=>none
def om :Ob->Option (List PV)
 | .cells Z=>some Z
 | .row s l=>if s=1/\l.isEmpty=true then some []else none
 | .dead=>none
 | .gone=>none
 | .imap _=>none
 | .iter _ _ _=>none
def l6 (objs:Nat->Ob)(dst:Option Nat)(st T Z:TyI)(s p:PV)(V:Nat):CE:=
 match dst,s with
 |some t, .ref o U Y len _=>match om (objs o)with
  |some X=>(st.kind=1/\T.kind=1/\Z.zok=true/\Z.size=1/\Z.bytes<=128/\objs t= .dead/\U=1/\Y=0/\len<=X.length/\roomy (len+1),
   {val:= .ref t 1 0 (len+1) (len+1),wr:=[(t, .cells (X.take len++[p])),(o, .gone)],rd:=[V]})
  |none=> .no
 |_,_=> .no
def qc (objs:Nat->Ob)(st Z:TyI)(s x:PV):CE:=
 match dB objs x,s with
 |some xs, .ref o Y X len _=>match objs o with
  | .row V l=>(st.kind=1/\Z.zok=true/\Y=Z.size/\Y=V/\X=0/\len=l.length/\xs.length=len/\(∀d,d∈xs->d.cells.length=Y),{val:= .int len,wr:=[(o, .row Y xs)],rd:=ew x})
  |_=> .no
 |_,_=> .no
def nT (ty:TyI)(objs:Nat->Ob)(x:PV):CE:=
 match x with
 | .mp o=>match objs o with
  | .imap l=>(ty.kind=7,{val:= .int l.length,rd:=[o]})
  |_=> .no
 | .d (.sc (.string s))=>(ty.kind=8, .v (.int s.size))
 |_=> .no
def dU (s:ByteArray):List Int:=s.data.toList.map λ b=>(b.toNat:Int)
def fQ (s:ByteArray):List D:=(dU s).map λ b=> .sc (.int .u8 b)
def nL (ty:TyI)(x i:PV):CE:=
 match x,i with
 | .d (.sc (.string s)), .d (.sc (.int .i64 n))=>(ty.kind=8/\0<=n/\n.toNat<s.size, .v (.d (.sc (.int .u8 ((dU s).getD n.toNat 0)))))
 |_,_=> .no
def pp (op:BinOp)(a b:Int):Prop×Bool:=
 match op with
 | .eql=>(True,decide (a=b))
 | .neq=>(True, !decide (a=b))
 | .lss=>(True,decide (a<b))
 | .leq=>(True,decide (a<=b))
 | .gtr=>(True,decide (b<a))
 | .geq=>(True,decide (b<=a))
 |_=>(False,false)
def jp (P:Program)(objs:Nat->Ob)(dst:Option Nat)(b:Builtin)(Z:List TypeId)(xs:List PV):CE:=
 match b,Z,xs with
 | .len,[t],[x]=>match fY x with
  |some n=>((tyi P t).kind=1, .v (.int n))
  |none=>nT (tyi P t) objs x
 | .min,_,[.d (.sc (.int .i64 a)), .d (.sc (.int .i64 c))]=> .v (.int (if c<a then c else a))
 | .max,_,[.d (.sc (.int .i64 a)), .d (.sc (.int .i64 c))]=> .v (.int (if a<c then c else a))
 | .min,_,[.d (.sc (.int .i64 a)), .d (.sc (.int .i64 c)), .d (.sc (.int .i64 e))]=> .v (.int (if e<(if c<a then c else a)then e else(if c<a then c else a)))
 | .max,_,[.d (.sc (.int .i64 a)), .d (.sc (.int .i64 c)), .d (.sc (.int .i64 e))]=> .v (.int (if(if a<c then c else a)<e then e else(if a<c then c else a)))
 | .append,[t,u],[s,x]=>match ip objs x with
  |some (p,Y)=>l6 objs dst (tyi P t) (tyi P u) (tyi P (tyi P t).elem) s p Y
  |none=>ib objs dst (tyi P t) (tyi P u) (tyi P (tyi P t).elem) s x
 | .copy,[t,_],[s,x]=>qc objs (tyi P t) (tyi P (tyi P t).elem) s x
 |_,_,_=> .no
def mJ (objs:Nat->Ob)(dst:Option Nat)(cs:Option (List PV)):CE:=
 match dst,cs with
 |some t,some cs=>(objs t= .dead,{val:= .ptr t 0 0 0,wr:=[(t, .cells cs)]})
 |_,_=> .no
def fy (ty:TyI)(objs:Nat->Ob)(a:PV):CE:=
 match a with
 | .d (.pt Z)=>(ty.ok=true/\(ldD ty Z).1, .v (.d (ldD ty Z).2))
 | .ptr o s i c=>(ty.ok=true/\(lj ty (objs o) s i c).1,{val:=(lj ty (objs o) s i c).2,rd:=[o]})
 |_=> .no
def jv (ty:TyI)(objs:Nat->Ob)(a:PV)(x:Option (List PV)):CE:=
 match a,x with
 | .ptr o s i c,some Z=>(Z.length=ty.size/\ty.ok=true/\(su (objs o) s i c Z).1,{val:= .unk,wr:=[(o,(su (objs o) s i c Z).2)]})
 |_,_=> .no
def nP (P:Program)(ty:TyI)(f:Nat)(x:PV):CE:=
 match ty.fields[f]? with
 |some (Z,Y)=>
  match x with
  | .d (.pt X)=>(ty.kind=3/\P.cellsOf Y≠0, .v (.d (.pt (X.drop Z))))
  | .ptr o s i c=>(ty.kind=3/\P.cellsOf Y≠0, .v (.ptr o s i (c+Z)))
  |_=> .no
 |none=> .no
def nS (ty:TyI)(Z:Nat)(x i:PV):CE:=
 match x,i with
 | .d (.sl l), .d (.sc (.int .i64 n))=>(ty.kind=1/\Z≠0/\0<=n/\n.toNat<l.length/\(l[n.toNat]?.getD default).cells.length=Z, .v (.d (.pt (l[n.toNat]?.getD default).cells)))
 | .ref o s Y len _, .d (.sc (.int .i64 n))=>(ty.kind=1/\Z≠0/\0<=n/\n.toNat<len/\s=Z, .v (.ptr o s (Y+n.toNat) 0))
 | .ptr o s i c, .d (.sc (.int .i64 n))=>(ty.kind=2/\Z≠0/\0<=n/\n.toNat<ty.len, .v (.ptr o s i (c+n.toNat*Z)))
 |_,_=> .no
def dZ :PV->Option PV
 | .nilS=>some (.bool true)
 | .z0=>some .ab
 | .d (.sl l)=>some (if l.isEmpty then .ab else .bool false)
 | .ref _ _ _ len cap=>some (if len=0/\cap=0 then .ab else .bool false)
 |_=>none
def xu :PV->PV
 | .d (.sc (.bool b))=> .bool (!b)
 |x=>x
def nM (op:BinOp)(ty:TyI)(x y:PV):CE:=
 match x,y with
 |x, .nilS=>match dZ x with
  |some r=>(ty.kind=1/\(op= .eql\/op= .neq), .v (if op= .eql then r else xu r))
  |none=> .no
 | .d (.sc (.int .i64 a)), .d (.sc (.int .i64 b))=>((j5 op a b).1, .v (.d (.sc (j5 op a b).2)))
 | .d (.sc (.int .i64 a)), .d (.sc (.int .u64 b))=>((op= .shl\/op= .shr)/\(j5 op a b).1, .v (.d (.sc (j5 op a b).2)))
 | .d (.sc (.int .u64 a)), .d (.sc (.int .u64 b))=>((j6 op a b).1, .v (.d (.sc (j6 op a b).2)))
 | .d (.sc (.int .u64 a)), .d (.sc (.int .i64 b))=>((op= .shl\/op= .shr)/\(j6 op a b).1, .v (.d (.sc (j6 op a b).2)))
 | .d (.sc (.bool a)), .d (.sc (.bool b))=>(ty.kind=6/\(op= .eql\/op= .neq), .v (.bool (if op= .eql then decide (a=b)else !decide (a=b))))
 | .d (.sc (.int .u8 a)), .d (.sc (.int .u8 b))=>((pp op a b).1, .v (.bool (pp op a b).2))
 | .d (.sc (.string a)), .d (.sc (.string b))=>((op= .eql\/op= .neq), .v (.bool (if op= .eql then decide (a=b)else !decide (a=b))))
 |p,q=>match p.agg?,q.agg? with
  |some Z,some Y=>match lL Z Y with
   |some t=>(ty.peq=true/\Z.length=ty.size/\(op= .eql\/op= .neq), .v (.bool (if op= .eql then t else !t)))
   |none=> .no
  |_,_=> .no
def nO (X Y:Option TypeDesc)(ty Z:TyI)(x:PV):CE:=
 match X,Y,x with
 |some _,some (.int k), .d (.sc (.int _ n))=> .v (.d (.sc (.int k (k.wrap n))))
 |some _,some _, .d (.sc (.string s))=>(ty.kind=1/\Z.bk=true/\roomy s.size, .v (.d (.sl (fQ s))))
 |_,_,_=> .no
def nY (op:UnOp)(x:PV):CE:=
 match op,x with
 | .not, .d (.sc (.bool b))=> .v (.bool (!b))
 | .not, .ab=> .v .ab
 | .neg, .d (.sc (.int .i64 a))=> .v (.int (IntKind.i64.wrap (-a)))
 | .neg, .d (.sc (.int .u64 a))=> .v (.d (.sc (.int .u64 (IntKind.u64.wrap (-a)))))
 |_,_=> .no
def nW (c a b:PV):CE:=
 match c with
 | .d (.sc (.bool t))=> .v (if t then a else b)
 |_=> .no
def j7 (Z:Nat):Option PV->Option Int
 |none=>some Z
 |some (.d (.sc (.int .i64 n)))=>some n
 |_=>none
def sw (l h:Nat):PV->PV
 | .d (.sl xs)=> .d (.sl ((xs.take h).drop l))
 | .ref o s Z _ cap=> .ref o s (Z+l) (h-l) (cap-l)
 | .nilS=> .nilS
 | .z0=> .z0
 |x=>x
def y9 (Z:Nat):PV->Prop
 | .d (.sl xs)=>∀d,d∈xs->d.cells.length=Z
 | .ref _ s _ _ _=>s=Z
 |_=>True
def nX (ty:TyI)(Z:Nat)(x:PV)(lo Y X:Option PV):CE:=
 match fY x,j7 0 lo with
 |some len,some l=>match j7 len Y,X with
  |some h,none=>(ty.kind=1/\Z≠0/\0<=l/\l<=h/\h<=len/\y9 Z x, .v (sw l.toNat h.toNat x))
  |some h,some (.d (.sc (.int .i64 m)))=>(ty.kind=1/\Z≠0/\Y.isSome=true/\l=0/\h=0/\m=0, .v .z0)
  |_,_=> .no
 |_,_=> .no
def l8 (x:PV)(i:Nat):CE:=
 match x with
 | .tup Z=>match Z[i]? with
  |some v=> .v v
  |none=> .no
 | .d (.tup Z)=>match Z[i]? with
  |some v=> .v (.d v)
  |none=> .no
 |_=> .no
def nN (ty:TyI)(Y:List (Nat×PV)):CE:=
 match pG (ty.places[·]?) (ty.zero.map lF) Y with
 |some Z=>(ty.zok=true/\ty.bok=true, .v (.ag Z))
 |none=> .no
def D.ofCells (agg:Bool)(cs:List D):D:=if agg then .ag cs else match cs with|[x]=>x|_=> .ag cs
def cellD :Value->D
 | .slice none 0 0=> .sl []
 |v=> .sc v
def l7 (objs:Nat->Ob)(dst:Option Nat)(own:Bool)(ty Z:TyI)(n:Nat)(Y:List (Nat×PV)):CE:=
 match mm Z.size (List.replicate n (.ofCells Z.agg (Z.zero.map cellD))) (Y.map λ p=>(p.1,toD objs 4 p.2))with
 |some l=>if own then match dst with
  |some t=>(ty.kind=1/\Z.zok=true/\n*Z.size<=16777216/\(Y.map (·.2)).flatMap (PV.refs objs 4)=[]/\objs t= .dead,{val:= .ref t Z.size 0 n n,wr:=[(t, .row Z.size l)]})
  |none=> .no
  else(ty.kind=1/\Z.zok=true/\n*Z.size<=16777216/\(Y.map (·.2)).flatMap (PV.refs objs 4)=[],{val:= .d (.sl l)})
 |none=> .no
def wL :PV->Bool
 | .ref _ _ _ _ _=>true
 | .d _=>false
 | .ptr _ _ _ _=>false
 | .nilS=>false
 | .z0=>false
 | .ag _=>false
 | .tup _=>false
 | .fn _ _=>false
 | .unk=>false
 | .und=>false
 | .ab=>false
 | .mp _=>false
 | .ifp _ _=>false
def rC :List (Nat×PV)->Bool
 |[]=>false
 |[q]=>wL q.2
 |_::_::_=>false
def jo (objs:Nat->Ob)(dst:Option Nat)(ty Z:TyI)(n:Nat)(Y:List (Nat×PV)):CE:=
 match dst,Y with
 |some t,[(i,p)]=>(ty.kind=1/\Z.zok=true/\Z.size=1/\n=1/\i=0/\wL p=true/\objs t= .dead,{val:= .ref t 1 0 1 1,wr:=[(t, .cells [p])]})
 |_,_=> .no
def mI (ty:TyI)(objs:Nat->Ob)(dst:Option Nat):CE:=
 match dst with
 |some t=>(ty.zok=true/\objs t= .dead,{val:= .ptr t 0 0 0,wr:=[(t, .cells (ty.zero.map lF))]})
 |none=> .no
def oI :List Value->Bool
 |[.slice none 0 0]=>true
 |_=>false
def mK (ty Z:TyI)(objs:Nat->Ob)(dst:Option Nat)(l c:PV):CE:=
 match dst,l,c with
 |some t, .d (.sc (.int .i64 n)), .d (.sc (.int .i64 m))=>
  (ty.kind=1/\Z.zok=true/\n=m/\0<=n/\(Z.bytes:Int)*n<=281474976710656/\n<=9223372036854775807/\objs t= .dead,
   {val:= .ref t Z.size 0 n.toNat n.toNat,wr:=[(t,if oI Z.zero=true then .cells (List.replicate n.toNat .nilS)else .row Z.size (List.replicate n.toNat (.ofCells Z.agg (Z.zero.map cellD))))]})
 |_,_,_=> .no
def js (ty:TyI)(objs:Nat->Ob)(dst:Option Nat):CE:=
 match dst with
 |some t=>(ty.kind=7/\objs t= .dead,{val:= .mp t,wr:=[(t, .imap [])]})
 |none=> .no
def jt (ty:TyI)(objs:Nat->Ob)(m k v:PV):CE:=
 match m,k,v with
 | .mp o, .d (.sc (.int .i64 a)), .d (.sc (.int .i64 c))=>match objs o with
  | .imap l=>(ty.kind=7,{val:= .unk,wr:=[(o, .imap (iB l a c))]})
  |_=> .no
 |_,_,_=> .no
def jr (ty:TyI)(objs:Nat->Ob)(m k:PV):CE:=
 match m,k with
 | .mp o, .d (.sc (.int .i64 a))=>match objs o with
  | .imap l=>(ty.kind=7,{val:= .int (ct l a),rd:=[o]})
  |_=> .no
 |_,_=> .no
def ju (ty:TyI)(objs:Nat->Ob)(dst:Option Nat)(m:PV):CE:=
 match dst,m with
 |some t, .mp o=>match objs o with
  | .imap l=>(ty.kind=7/\objs t= .dead,{val:= .ptr t 1 0 0,wr:=[(t, .iter o l.length [])],rd:=[o]})
  |_=> .no
 |_,_=> .no
def jq (objs:Nat->Ob)(x:PV):CE:=
 match x with
 | .ptr o _ 0 0=>match objs o with
  | .iter m k s=>match objs m,s.getLast? with
   | .imap l,some j=>(l.length=k/\j<k,{val:= .tup [.int (l.getD j (0,0)).1, .int (l.getD j (0,0)).2],rd:=[o,m]})
   |_,_=> .no
  |_=> .no
 |_=> .no
def nV (x:PV):CE:=
 match x with
 | .d (.pt Z)=> .v (.d (.pt Z))
 | .ptr o s i c=> .v (.ptr o s i c)
 |_=> .no
def nR (ty:TyI)(T:TypeId)(x:PV):CE:=
 match x with
 | .d (.sc (.int .i64 n))=>(ty.kind=5, .v (.d (.sc (.iface T (.int .i64 n)))))
 | .ptr o s i c=>(ty.kind=4/\i*s+c=0, .v (.ifp T o))
 |_=> .no
def nK (ty:TyI)(T:TypeId)(x:PV):CE:=
 match x with
 | .d (.sc (.iface t (.int .i64 n)))=>(ty.kind=5/\t=T, .v (.int n))
 |_=> .no
def nU (fn:Fn)(first:List PV)(caps:List PV):CE:=
 match fn,first with
 | .func f,[]=> .v (.fn f caps)
 |_,_=> .no
def F8 (own:Nat->Bool):Option Nat->Bool
 |some t=>own t
 |none=>false
def sem (P:Program)(own:Nat->Bool)(ev:Operand->PV)(objs:Nat->Ob)(dst:Option Nat)(op:Op):CE:=
 match op with
 | .move x=> .v (ev x)
 | .assign x=> .v (ev x)
 | .pick c a b=>nW (ev c) (ev a) (ev b)
 | .alloc T=>mI (tyi P T) objs dst
 | .box _ x=>mJ objs dst (ev x).cells?
 | .build T Y=>nN (tyi P T) (Y.toList.map λ p=>(p.1,ev p.2))
 | .buildSlice T n Y=>if rC (Y.toList.map λ p=>(p.1,ev p.2))=true then jo objs dst (tyi P T) (tyi P (tyi P T).elem) n (Y.toList.map λ p=>(p.1,ev p.2))
   else l7 objs dst (F8 own dst) (tyi P T) (tyi P (tyi P T).elem) n (Y.toList.map λ p=>(p.1,ev p.2))
 | .load T a=>fy (tyi P T) objs (ev a)
 | .store T a x=>jv (tyi P T) objs (ev a) (ev x).cells?
 | .fieldAddr T x f=>nP P (tyi P T) f (ev x)
 | .indexAddr T (.global g) i=>nQ (tabs P) g (tyi P T) (P.cellsOf (tyi P T).elem) (ev i)
 | .indexAddr T x i=>nS (tyi P T) (P.cellsOf (tyi P T).elem) (ev x) (ev i)
 | .makeInterface T x=>nR (tyi P T) T (ev x)
 | .typeAssert x _ T false=>nK (tyi P T) T (ev x)
 | .binOp op T x y _=>nM op (tyi P T) (ev x) (ev y)
 | .unOp op _ x=>nY op (ev x)
 | .convert s dst x=>nO (P.underlying s) (P.underlying dst) (tyi P dst) (tyi P (tyi P dst).elem) (ev x)
 | .index T x i=>nL (tyi P T) (ev x) (ev i)
 | .extract x i=>l8 (ev x) i
 | .nilCheck x=>nV (ev x)
 | .slice T x X h V=>nX (tyi P T) (P.cellsOf (tyi P T).elem) (ev x) (X.map ev) (h.map ev) (V.map ev)
 | .makeSlice T l c=>mK (tyi P T) (tyi P (tyi P T).elem) objs dst (ev l) (ev c)
 | .makeFunc fn first Z=>nU fn (first.toList.map ev) (Z.toList.map ev)
 | .makeMap T none=>js (tyi P T) objs dst
 | .mapUpdate T m k v=>jt (tyi P T) objs (ev m) (ev k) (ev v)
 | .lookup T m k false=>jr (tyi P T) objs (ev m) (ev k)
 | .range T x=>ju (tyi P T) objs dst (ev x)
 | .entry x=>jq objs (ev x)
 | .call c=>match c.callee with
  | .builtin b=>jp P objs dst b c.argTypes.toList (c.args.toList.map ev)
  |_=> .no
 |_=> .no
def qt (P:Program)(objs:Nat->Ob)(f:PV)(xs:List PV)(r:D):Prop:=
 ∃g Z args,f= .d (.fn g Z)/\xs.mapM (toD objs 4)=some args/\ah P g (args++Z) r/\(xs.flatMap (PV.refs objs 4)=[]\/r.flat 4=true)
mutual
def PV.ren (g:Nat->Nat):PV->PV
 | .ref o s Y len cap=> .ref (g o) s Y len cap
 | .ptr o s i c=> .ptr (g o) s i c
 | .ag Z=> .ag (PV.renL g Z)
 | .tup Z=> .tup (PV.renL g Z)
 | .fn f Z=> .fn f (PV.renL g Z)
 | .d x=> .d x
 | .nilS=> .nilS
 | .z0=> .z0
 | .unk=> .unk
 | .und=> .und
 | .ab=> .ab
 | .mp o=> .mp (g o)
 | .ifp T o=> .ifp T (g o)
def PV.renL (g:Nat->Nat):List PV->List PV
 |[]=>[]
 |c::Z=>PV.ren g c::PV.renL g Z
end
theorem PV.renL_eq (g:Nat->Nat):∀cs:List PV,PV.renL g cs=cs.map (PV.ren g)
 |[]=>rfl
 |c::cs=>by rw[PV.renL,PV.renL_eq g cs];rfl
def Ob.ren (g:Nat->Nat):Ob->Ob
 | .cells Z=> .cells (Z.map (PV.ren g))
 | .dead=> .dead
 | .gone=> .gone
 | .row Y l=> .row Y l
 | .imap l=> .imap l
 | .iter m k s=> .iter (g m) k s
def m6 :PV->Option (FuncId×List PV)
 | .d (.fn g Z)=>some (g,Z.map .d)
 | .fn g Z=>some (g,Z)
 |_=>none
def et (g:Nat->Nat)(M:List (Nat×Ob)):List (Nat×Ob):=M.map λ q=>(g q.1,q.2.ren g)
def bsz (w:World)(b:Nat):Nat:=match w.heap[b]? with|some (.cells c _ _)=>c.size|_=>0
def ownX (ι:Nat->Option Nat)(X:Nat->Prop):Nat->Prop:=λ b=>X b\/∃o,ι o=some b
inductive PV.At (w:World)(ι:Nat->Option Nat)(X:Nat->Prop):PV->Value->Prop
 |d (x:D) (v:Value) (h:D.At w (ownX ι X) x v):PV.At w ι X (.d x) v
 |ref (o sz off len cap capr b:Nat) (hι:ι o=some b) (hl:len<=capr) (hc:cap<=capr) (hm:capr<=maxLen) (hs:(off+capr)*sz=bsz w b):
  PV.At w ι X (.ref o sz off len cap) (.slice (some ⟨b,off*sz,none⟩) len capr)
 |ref0 (o sz off:Nat) (base:Option Addr):PV.At w ι X (.ref o sz off 0 0) (.slice base 0 0)
 |ptr (o sz i c b:Nat) (hι:ι o=some b):PV.At w ι X (.ptr o sz i c) (.pointer (some ⟨b,i*sz+c,none⟩))
 |nilS:PV.At w ι X .nilS (.slice none 0 0)
 |z0 (base:Option Addr):PV.At w ι X .z0 (.slice base 0 0)
 |ag (cs:List PV) (arr:Array Value) (hsz:arr.size=cs.length) (hone:∀(j:Nat) (v:Value),arr[j]? =some v->v.oneCell'=true)
  (h:∀(j:Nat) d v,cs[j]? =some d->arr[j]? =some v->PV.At w ι X d v):PV.At w ι X (.ag cs) (.agg arr)
 |tup (cs:List PV) (arr:Array Value) (hsz:arr.size=cs.length)
  (h:∀(j:Nat) d v,cs[j]? =some d->arr[j]? =some v->PV.At w ι X d v):PV.At w ι X (.tup cs) (.tuple arr)
 |fn (f:FuncId) (cs:List PV) (arr:Array Value) (hsz:arr.size=cs.length)
  (h:∀(j:Nat) d v,cs[j]? =some d->arr[j]? =some v->PV.At w ι X d v):PV.At w ι X (.fn f cs) (.func (.func f) #[] arr)
 |unk (v:Value):PV.At w ι X .unk v
 |und:PV.At w ι X .und undef
 |ab (b:Bool):PV.At w ι X .ab (.bool b)
 |mp (o b:Nat) (hι:ι o=some b):PV.At w ι X (.mp o) (.map (some b))
 |ifp (T o b:Nat) (hι:ι o=some b):PV.At w ι X (.ifp T o) (.iface T (.pointer (some ⟨b,0,none⟩)))
structure EntOk (es:Array MapEntry)(clock:Nat)(l:List (Int×Int)):Prop where
 kv:es.toList.map (λ e=>(e.key,e.val))=l.map λ p=>(Value.int .i64 p.1,Value.int .i64 p.2)
 born:es.toList.map (·.born)=List.range l.length
 clock:clock=l.length
inductive Ob.At (w:World)(ι:Nat->Option Nat)(X:Nat->Prop)(o:Nat):Ob->Prop
 |dead (h:ι o=none):Ob.At w ι X o .dead
 |gone:Ob.At w ι X o .gone
 |cells (cs:List PV) (b:Nat) (c:Array Value) (T:TypeId) (hι:ι o=some b) (hb:w.heap[b]? =some (.cells c T (0,0))) (hsz:cs.length<=c.size)
  (hone:∀(j:Nat) (v:Value),c[j]? =some v->v.oneCell'=true)
  (h:∀(j:Nat) p v,cs[j]? =some p->c[j]? =some v->PV.At w ι X p v):Ob.At w ι X o (.cells cs)
 |row0 (sz:Nat) (h:ι o=none):Ob.At w ι X o (.row sz [])
 |row (sz:Nat) (l:List D) (b:Nat) (c:Array Value) (T:TypeId) (hι:ι o=some b) (hb:w.heap[b]? =some (.cells c T (0,0))) (hsz:l.length*sz<=c.size)
  (hcl:∀d,d∈l->d.cells.length=sz)
  (hone:∀(j:Nat) (v:Value),c[j]? =some v->v.oneCell'=true)
  (h:∀(i:Nat) d (j:Nat) e v,l[i]? =some d->d.cells[j]? =some e->c[i*sz+j]? =some v->D.At w (ownX ι X) e v):Ob.At w ι X o (.row sz l)
 |imap (l:List (Int×Int)) (b:Nat) (es:Array MapEntry) (clock:Nat) (hι:ι o=some b) (hb:w.heap[b]? =some (.map es clock))
  (he:EntOk es clock l):Ob.At w ι X o (.imap l)
 |iter (m k:Nat) (sn:List Nat) (b bm:Nat) (hι:ι o=some b) (hm:ι m=some bm) (hb:w.heap[b]? =some (.mapIter (some bm) k sn.toArray k)):Ob.At w ι X o (.iter m k sn)
def cZ :List (Nat×PV)->Nat->PV
 |[]=>λ _=> .unk
 |(i,v)::r=>upd i v (cZ r)
def aL :List (Nat×Ob)->Nat->Ob
 |[]=>λ _=> .dead
 |(i,v)::r=>upd i v (aL r)
def PV.only (L:List Nat):Nat->PV->Bool
 |0,_=>false
 |_+1, .d _=>true
 |_+1, .unk=>true
 |_+1, .und=>true
 |_+1, .ab=>true
 |_+1, .nilS=>true
 |_+1, .z0=>true
 |_+1, .ref o _ _ _ _=>L.contains o
 |_+1, .ptr o _ _ _=>L.contains o
 |_+1, .mp o=>L.contains o
 |_+1, .ifp _ o=>L.contains o
 |n+1, .ag Z=>Z.all (PV.only L n)
 |n+1, .tup Z=>Z.all (PV.only L n)
 |n+1, .fn _ Z=>Z.all (PV.only L n)
def Ob.only (L:List Nat):Ob->Bool
 | .cells Z=>Z.all (PV.only L 4)
 | .iter m _ _=>L.contains m
 |_=>true
def ax (P:Program)(f:FuncId)(args:List PV)(M:List (Nat×Ob))(r:PV)(T:List (Nat×Ob)):Prop:=
 qu P f/\∀(w:World) (Y:Nat->Option Nat) (X:Nat->Prop) (R:Array Value),
  (∀b,X b->b<w.heap.size/\∀o,Y o≠some b)->(∀o V b,aL M o≠ .gone->aL M V≠ .gone->Y o=some b->Y V=some b->o=V)->(∀o b,Y o=some b->b<w.heap.size)->
  R.size=args.length->(∀(j:Nat) p v,args[j]? =some p->R[j]? =some v->PV.At w Y X p v)->(∀o,Ob.At w Y X o (aL M o))->(∀o b,Y o=some b->o∈M.map (·.1))->iO (tabs P) w (ownX Y X)->
  Calls P f R w λ e U=>∃v Z,e= .returned v/\PV.At U Z X r v/\(∀o,Ob.At U Z X o (aL T o))/\(∀o b,Z o=some b->o∈T.map (·.1))/\
   (∀o V b,aL T o≠ .gone->aL T V≠ .gone->Z o=some b->Z V=some b->o=V)/\(∀o b,Z o=some b->¬X b/\((∃V,Y V=some b)\/w.heap.size<=b)/\b<U.heap.size)/\
   U.os=w.os/\U.tape=w.tape/\U.output=w.output/\w.heap.size<=U.heap.size/\
   (∀b,b<w.heap.size->(∀o,Y o≠some b)->U.heap[b]? =w.heap[b]?)/\
   (∀o b,Y o=some b->Z o=some b/\bsz U b=bsz w b)
def PV.flatP :Nat->PV->Bool
 |0,_=>false
 |_+1, .d x=>x.flat 4
 |n+1, .ag Z=>Z.all (PV.flatP n)
 |n+1, .tup Z=>Z.all (PV.flatP n)
 |n+1, .fn _ Z=>Z.all (PV.flatP n)
 |_+1, .ref _ _ _ _ _=>true
 |_+1, .ptr _ _ _ _=>true
 |_+1, .nilS=>true
 |_+1, .z0=>true
 |_+1, .unk=>true
 |_+1, .und=>true
 |_+1, .ab=>true
 |_+1, .mp _=>true
 |_+1, .ifp _ _=>true
def Ob.flatP :Ob->Prop
 | .cells Z=>(Z.all (PV.flatP 4))=true
 | .row _ l=>∀d,d∈l->∀c,c∈d.cells->c.flat 4=true
 | .dead=>True
 | .gone=>True
 | .imap _=>True
 | .iter _ _ _=>True
def ku (objs:Nat->Ob)(g:Nat->Nat)(Z:Prop):List PV->List PV->Prop
 |[],[]=>True
 |x::xs,p::Y=>(x=p.ren g\/∃d,p= .d d/\toD objs 4 x=some d/\(x.refs objs 4=[]\/Z))/\ku objs g Z xs Y
 |_,_=>False
def sK (r:PV)(M Z:List (Nat×Ob)):Prop:=r.flatP 4=true/\(∀q∈M,q.2.flatP)/\∀q∈Z,q.2.flatP
structure CallCondM (P:Program)(objs:Nat->Ob)(f:PV)(xs:List PV)(e:Eff):Prop where
 ex:∃(h:FuncId) (caps args:List PV) (M M':List (Nat×Ob)) (r:PV) (g:Nat->Nat) (fl:Prop),
  m6 f=some (h,caps)/\ku objs g fl (xs++caps) args/\ax P h args M r M'/\
  M'.map (·.1)=M.map (·.1)/\(args.all (PV.only (M.map (·.1)) 4))=true/\(M.all λ q=>q.2.only (M.map (·.1)))=true/\
  r.only (M.map (·.1)) 4=true/\(M'.all λ q=>q.2.only (M.map (·.1)))=true/\
  (M.map λ q=>g q.1).Nodup/\(∀q∈M,objs (g q.1)=q.2.ren g)/\
  (∀q∈M,2000<=q.1->q.2= .dead)/\(∀q∈M,q.2≠ .gone)/\
  (fl->sK r M M'/\∀x∈xs++caps,∀o∈x.refs objs 4,o∉M.map λ q=>g q.1)/\
  e={val:=r.ren g,wr:=et g M',rd:=(xs++caps).flatMap (PV.refs objs 4)}
def Jj (P:Program)(T:TypeId)(m:String)(g:FuncId):Prop:=∀(x:Value) (w:World),(method (P.types.size+Made.depth) T x m).run P w= .ok (g,x) w
def Jk (P:Program)(T:TypeId)(m:String)(g:FuncId)(t:TypeId):Prop:=
 ∀(b:Nat) (w:World),(method (P.types.size+Made.depth) T (.pointer (some ⟨b,0,none⟩)) m).run P w=(do let v<-loadVar t ⟨b,0,none⟩;pure (g,v):Sem (FuncId×Value)).run P w
def Inv (P:Program)(objs:Nat->Ob)(x:PV)(m:String)(g:FuncId)(recv:PV)(Z:List Nat):Prop:=
 ∃T o,x= .ifp T o/\((Jj P T m g/\recv= .ptr o 0 0 0/\Z=[])\/
  ∃t,Jk P T m g t/\(fy (tyi P t) objs (.ptr o 0 0 0)).1/\recv=(fy (tyi P t) objs (.ptr o 0 0 0)).2.val/\Z=[o])
abbrev cH :=List Nat×List Nat
def Eff.foot (e:Eff):cH:=(e.rd,e.wr.map (·.1))
def St.put (S:St)(dst:Option Nat)(x:PV):St:={env:=match dst with|some t=>upd t x S.env|none=>S.env,objs:=S.objs}
theorem bH (S:St)(dst:Option Nat)(x:PV):S.app dst {val:=x}=S.put dst x:=by
 cases dst<;>rfl
theorem pe (S:St)(dst:Option Nat)(x:PV)(rd:List Nat):S.app dst {val:=x,rd:=rd}=S.put dst x:=by
 cases dst<;>rfl
def wpOp (P:Program)(own:Nat->Bool)(o:Oper)(S:St)(fs:List cH)(k:St->List cH->Prop):Prop:=
 match o.op with
 | .call {callee:= .value f,args,.. }=>(∃r,qt P S.objs (S.ev f) (args.toList.map S.ev) r/\
   k (S.put o.dst (.d r)) (((args.toList.map S.ev).flatMap (PV.refs S.objs 4),[])::fs))\/
   ∃e,CallCondM P S.objs (S.ev f) (args.toList.map S.ev) e/\k (S.app o.dst e) (e.foot::fs)
 | .call {callee:= .invoke r m,args,.. }=>∃g recv Z e,Inv P S.objs (S.ev r) m g recv Z/\CallCondM P S.objs (.d (.fn g [])) (recv::args.toList.map S.ev) e/\
   k (S.app o.dst e) ((Z++e.rd,e.wr.map (·.1))::fs)
 |op=>(sem P own S.ev S.objs o.dst op).1/\k (S.app o.dst (sem P own S.ev S.objs o.dst op).2) ((sem P own S.ev S.objs o.dst op).2.foot::fs)
def grd (all:List Oper)(S:St)(j:Nat):Option (Option Bool):=
 match(all[j]?).bind (·.dst)with
 |some t=>match S.env t with
  | .d (.sc (.bool b))=>some (some b)
  | .und=>some none
  |_=>none
 |none=>none
def ao (P:Program)(own:Nat->Bool)(all:List Oper):List Oper->St->List cH->(St->List cH->Prop)->Prop
 |[],S,fs,K=>K S fs
 |o::rest,S,fs,K=>
  match o.guard with
  |none=>wpOp P own o S fs λ X Z=>ao P own all rest X Z K
  |some (j,Y)=>
   match grd all S j with
   |some g=>if g=some Y then wpOp P own o S fs λ X Z=>ao P own all rest X Z K
    else ao P own all rest (S.put o.dst .und) (([],[])::fs) K
   |none=>False
section rules
variable {P:Program}{own:Nat->Bool}{all rest:List Oper}{S:St}{fs:List cH}{K:St->List cH->Prop}{dst:Option Nat}{ty:TypeId}{pos:String}{af:Array Edge}
@[go_sem] theorem U9 :ao P own all [] S fs K=K S fs:=rfl
end rules
section rules
variable {P:Program}{own:Nat->Bool}{all rest:List Oper}{S:St}{fs:List cH}{K:St->List cH->Prop}{dst:Option Nat}{ty:TypeId}{pos:String}{af:Array Edge}
@[go_sem] theorem U8 {x:Operand}:ao P own all (⟨dst, .move x,ty,pos,af,none⟩::rest) S fs K=ao P own all rest (S.put dst (S.ev x)) (([],[])::fs) K:=by
 show(True/\ao P own all rest (S.app dst {val:=S.ev x}) (([],[])::fs) K)=_;rw[bH,Ds]
@[go_sem] theorem UO {x:Operand}:ao P own all (⟨dst, .assign x,ty,pos,af,none⟩::rest) S fs K=ao P own all rest (S.put dst (S.ev x)) (([],[])::fs) K:=by
 show(True/\ao P own all rest (S.app dst {val:=S.ev x}) (([],[])::fs) K)=_;rw[bH,Ds]
@[go_sem] theorem Vb {c a b:Operand}:ao P own all (⟨dst, .pick c a b,ty,pos,af,none⟩::rest) S fs K=
  ((nW (S.ev c) (S.ev a) (S.ev b)).1/\ao P own all rest (S.app dst (nW (S.ev c) (S.ev a) (S.ev b)).2) ((nW (S.ev c) (S.ev a) (S.ev b)).2.foot::fs) K):=Eq.trans rfl rfl
@[go_sem] theorem UN {T:TypeId}:ao P own all (⟨dst, .alloc T,ty,pos,af,none⟩::rest) S fs K=
  ((mI (tyi P T) S.objs dst).1/\ao P own all rest (S.app dst (mI (tyi P T) S.objs dst).2) ((mI (tyi P T) S.objs dst).2.foot::fs) K):=Eq.trans rfl rfl
@[go_sem] theorem UQ {T:TypeId}{x:Operand}:ao P own all (⟨dst, .box T x,ty,pos,af,none⟩::rest) S fs K=
  ((mJ S.objs dst (S.ev x).cells?).1/\ao P own all rest (S.app dst (mJ S.objs dst (S.ev x).cells?).2) ((mJ S.objs dst (S.ev x).cells?).2.foot::fs) K):=Eq.trans rfl rfl
@[go_sem] theorem run_build {T:TypeId}{Z:Array (Nat×Operand)}:ao P own all (⟨dst, .build T Z,ty,pos,af,none⟩::rest) S fs K=
  ((nN (tyi P T) (Z.toList.map λ p=>(p.1,S.ev p.2))).1/\ao P own all rest (S.app dst (nN (tyi P T) (Z.toList.map λ p=>(p.1,S.ev p.2))).2) ((nN (tyi P T) (Z.toList.map λ p=>(p.1,S.ev p.2))).2.foot::fs) K):=Eq.trans rfl rfl
@[go_sem] theorem UR {T:TypeId}{n:Nat}{t:Nat}{Z:Array (Nat×Operand)}:ao P own all (⟨some t, .buildSlice T n Z,ty,pos,af,none⟩::rest) S fs K=
  if rC (Z.toList.map λ p=>(p.1,S.ev p.2))=true then
   ((jo S.objs (some t) (tyi P T) (tyi P (tyi P T).elem) n (Z.toList.map λ p=>(p.1,S.ev p.2))).1/\
   ao P own all rest (S.app (some t) (jo S.objs (some t) (tyi P T) (tyi P (tyi P T).elem) n (Z.toList.map λ p=>(p.1,S.ev p.2))).2) ((jo S.objs (some t) (tyi P T) (tyi P (tyi P T).elem) n (Z.toList.map λ p=>(p.1,S.ev p.2))).2.foot::fs) K)
  else((l7 S.objs (some t) (own t) (tyi P T) (tyi P (tyi P T).elem) n (Z.toList.map λ p=>(p.1,S.ev p.2))).1/\
   ao P own all rest (S.app (some t) (l7 S.objs (some t) (own t) (tyi P T) (tyi P (tyi P T).elem) n (Z.toList.map λ p=>(p.1,S.ev p.2))).2) ((l7 S.objs (some t) (own t) (tyi P T) (tyi P (tyi P T).elem) n (Z.toList.map λ p=>(p.1,S.ev p.2))).2.foot::fs) K):=by
 have h:ao P own all (⟨some t, .buildSlice T n Z,ty,pos,af,none⟩::rest) S fs K=((λ e:CE=>e.1/\ao P own all rest (S.app (some t) e.2) (e.2.foot::fs) K)
   (if rC (Z.toList.map λ p=>(p.1,S.ev p.2))=true then jo S.objs (some t) (tyi P T) (tyi P (tyi P T).elem) n (Z.toList.map λ p=>(p.1,S.ev p.2))
    else l7 S.objs (some t) (own t) (tyi P T) (tyi P (tyi P T).elem) n (Z.toList.map λ p=>(p.1,S.ev p.2)))):=Eq.trans rfl rfl
 rw[h];split<;>rfl
@[go_sem] theorem U1 {T:TypeId}{a:Operand}:ao P own all (⟨dst, .load T a,ty,pos,af,none⟩::rest) S fs K=
  ((fy (tyi P T) S.objs (S.ev a)).1/\ao P own all rest (S.app dst (fy (tyi P T) S.objs (S.ev a)).2) ((fy (tyi P T) S.objs (S.ev a)).2.foot::fs) K):=Eq.trans rfl rfl
@[go_sem] theorem Ve {T:TypeId}{a x:Operand}:ao P own all (⟨dst, .store T a x,ty,pos,af,none⟩::rest) S fs K=
  ((jv (tyi P T) S.objs (S.ev a) (S.ev x).cells?).1/\ao P own all rest (S.app dst (jv (tyi P T) S.objs (S.ev a) (S.ev x).cells?).2) ((jv (tyi P T) S.objs (S.ev a) (S.ev x).cells?).2.foot::fs) K):=Eq.trans rfl rfl
@[go_sem] theorem UW {T:TypeId}{x:Operand}{f:Nat}:ao P own all (⟨dst, .fieldAddr T x f,ty,pos,af,none⟩::rest) S fs K=
  ((nP P (tyi P T) f (S.ev x)).1/\ao P own all rest (S.app dst (nP P (tyi P T) f (S.ev x)).2) ((nP P (tyi P T) f (S.ev x)).2.foot::fs) K):=Eq.trans rfl rfl
@[go_sem] theorem UZ {T:TypeId}{x:Nat}{i:Operand}:ao P own all (⟨dst, .indexAddr T (.tmp x) i,ty,pos,af,none⟩::rest) S fs K=
  ((nS (tyi P T) (P.cellsOf (tyi P T).elem) (S.ev (.tmp x)) (S.ev i)).1/\ao P own all rest (S.app dst (nS (tyi P T) (P.cellsOf (tyi P T).elem) (S.ev (.tmp x)) (S.ev i)).2) ((nS (tyi P T) (P.cellsOf (tyi P T).elem) (S.ev (.tmp x)) (S.ev i)).2.foot::fs) K):=Eq.trans rfl rfl
@[go_sem] theorem U0 {T:TypeId}{g:Nat}{i:Operand}:ao P own all (⟨dst, .indexAddr T (.global g) i,ty,pos,af,none⟩::rest) S fs K=
  ((nQ (tabs P) g (tyi P T) (P.cellsOf (tyi P T).elem) (S.ev i)).1/\ao P own all rest (S.app dst (nQ (tabs P) g (tyi P T) (P.cellsOf (tyi P T).elem) (S.ev i)).2) ((nQ (tabs P) g (tyi P T) (P.cellsOf (tyi P T).elem) (S.ev i)).2.foot::fs) K):=Eq.trans rfl rfl
@[go_sem] theorem U4 {T:TypeId}{x:Operand}:ao P own all (⟨dst, .makeInterface T x,ty,pos,af,none⟩::rest) S fs K=
  ((nR (tyi P T) T (S.ev x)).1/\ao P own all rest (S.app dst (nR (tyi P T) T (S.ev x)).2) ((nR (tyi P T) T (S.ev x)).2.foot::fs) K):=Eq.trans rfl rfl
@[go_sem] theorem Vf {T U:TypeId}{x:Operand}:ao P own all (⟨dst, .typeAssert x U T false,ty,pos,af,none⟩::rest) S fs K=
  ((nK (tyi P T) T (S.ev x)).1/\ao P own all rest (S.app dst (nK (tyi P T) T (S.ev x)).2) ((nK (tyi P T) T (S.ev x)).2.foot::fs) K):=Eq.trans rfl rfl
@[go_sem] theorem UP {op:BinOp}{T Z:TypeId}{x y:Operand}:ao P own all (⟨dst, .binOp op T x y Z,ty,pos,af,none⟩::rest) S fs K=
  ((nM op (tyi P T) (S.ev x) (S.ev y)).1/\ao P own all rest (S.app dst (nM op (tyi P T) (S.ev x) (S.ev y)).2) ((nM op (tyi P T) (S.ev x) (S.ev y)).2.foot::fs) K):=Eq.trans rfl rfl
@[go_sem] theorem Vg {op:UnOp}{T:TypeId}{x:Operand}:ao P own all (⟨dst, .unOp op T x,ty,pos,af,none⟩::rest) S fs K=
  ((nY op (S.ev x)).1/\ao P own all rest (S.app dst (nY op (S.ev x)).2) ((nY op (S.ev x)).2.foot::fs) K):=Eq.trans rfl rfl
@[go_sem] theorem UT {T U:TypeId}{x:Operand}:ao P own all (⟨dst, .convert T U x,ty,pos,af,none⟩::rest) S fs K=
  ((nO (P.underlying T) (P.underlying U) (tyi P U) (tyi P (tyi P U).elem) (S.ev x)).1/\ao P own all rest (S.app dst (nO (P.underlying T) (P.underlying U) (tyi P U) (tyi P (tyi P U).elem) (S.ev x)).2) ((nO (P.underlying T) (P.underlying U) (tyi P U) (tyi P (tyi P U).elem) (S.ev x)).2.foot::fs) K):=Eq.trans rfl rfl
@[go_sem] theorem UY {T:TypeId}{x i:Operand}:ao P own all (⟨dst, .index T x i,ty,pos,af,none⟩::rest) S fs K=
  ((nL (tyi P T) (S.ev x) (S.ev i)).1/\ao P own all rest (S.app dst (nL (tyi P T) (S.ev x) (S.ev i)).2) ((nL (tyi P T) (S.ev x) (S.ev i)).2.foot::fs) K):=Eq.trans rfl rfl
@[go_sem] theorem Vd {T:TypeId}{x:Operand}{lo h Z:Option Operand}:ao P own all (⟨dst, .slice T x lo h Z,ty,pos,af,none⟩::rest) S fs K=
  ((nX (tyi P T) (P.cellsOf (tyi P T).elem) (S.ev x) (lo.map S.ev) (h.map S.ev) (Z.map S.ev)).1/\ao P own all rest (S.app dst (nX (tyi P T) (P.cellsOf (tyi P T).elem) (S.ev x) (lo.map S.ev) (h.map S.ev) (Z.map S.ev)).2) ((nX (tyi P T) (P.cellsOf (tyi P T).elem) (S.ev x) (lo.map S.ev) (h.map S.ev) (Z.map S.ev)).2.foot::fs) K):=Eq.trans rfl rfl
@[go_sem] theorem U6 {T:TypeId}{l c:Operand}:ao P own all (⟨dst, .makeSlice T l c,ty,pos,af,none⟩::rest) S fs K=
  ((mK (tyi P T) (tyi P (tyi P T).elem) S.objs dst (S.ev l) (S.ev c)).1/\ao P own all rest (S.app dst (mK (tyi P T) (tyi P (tyi P T).elem) S.objs dst (S.ev l) (S.ev c)).2) ((mK (tyi P T) (tyi P (tyi P T).elem) S.objs dst (S.ev l) (S.ev c)).2.foot::fs) K):=Eq.trans rfl rfl
@[go_sem] theorem U3 {fn:Fn}{Y Z:Array Operand}:ao P own all (⟨dst, .makeFunc fn Y Z,ty,pos,af,none⟩::rest) S fs K=
  ((nU fn (Y.toList.map S.ev) (Z.toList.map S.ev)).1/\ao P own all rest (S.app dst (nU fn (Y.toList.map S.ev) (Z.toList.map S.ev)).2) ((nU fn (Y.toList.map S.ev) (Z.toList.map S.ev)).2.foot::fs) K):=Eq.trans rfl rfl
@[go_sem] theorem Va {x:Operand}:ao P own all (⟨dst, .nilCheck x,ty,pos,af,none⟩::rest) S fs K=
  ((nV (S.ev x)).1/\ao P own all rest (S.app dst (nV (S.ev x)).2) ((nV (S.ev x)).2.foot::fs) K):=Eq.trans rfl rfl
@[go_sem] theorem U5 {T:TypeId}:ao P own all (⟨dst, .makeMap T none,ty,pos,af,none⟩::rest) S fs K=
  ((js (tyi P T) S.objs dst).1/\ao P own all rest (S.app dst (js (tyi P T) S.objs dst).2) ((js (tyi P T) S.objs dst).2.foot::fs) K):=Eq.trans rfl rfl
@[go_sem] theorem U7 {T:TypeId}{m k v:Operand}:ao P own all (⟨dst, .mapUpdate T m k v,ty,pos,af,none⟩::rest) S fs K=
  ((jt (tyi P T) S.objs (S.ev m) (S.ev k) (S.ev v)).1/\ao P own all rest (S.app dst (jt (tyi P T) S.objs (S.ev m) (S.ev k) (S.ev v)).2) ((jt (tyi P T) S.objs (S.ev m) (S.ev k) (S.ev v)).2.foot::fs) K):=Eq.trans rfl rfl
@[go_sem] theorem U2 {T:TypeId}{m k:Operand}:ao P own all (⟨dst, .lookup T m k false,ty,pos,af,none⟩::rest) S fs K=
  ((jr (tyi P T) S.objs (S.ev m) (S.ev k)).1/\ao P own all rest (S.app dst (jr (tyi P T) S.objs (S.ev m) (S.ev k)).2) ((jr (tyi P T) S.objs (S.ev m) (S.ev k)).2.foot::fs) K):=Eq.trans rfl rfl
@[go_sem] theorem Vc {T:TypeId}{x:Operand}:ao P own all (⟨dst, .range T x,ty,pos,af,none⟩::rest) S fs K=
  ((ju (tyi P T) S.objs dst (S.ev x)).1/\ao P own all rest (S.app dst (ju (tyi P T) S.objs dst (S.ev x)).2) ((ju (tyi P T) S.objs dst (S.ev x)).2.foot::fs) K):=Eq.trans rfl rfl
@[go_sem] theorem UU {x:Operand}:ao P own all (⟨dst, .entry x,ty,pos,af,none⟩::rest) S fs K=
  ((jq S.objs (S.ev x)).1/\ao P own all rest (S.app dst (jq S.objs (S.ev x)).2) ((jq S.objs (S.ev x)).2.foot::fs) K):=Eq.trans rfl rfl
@[go_sem] theorem UV {x:Operand}{i:Nat}:ao P own all (⟨dst, .extract x i,ty,pos,af,none⟩::rest) S fs K=
  ((l8 (S.ev x) i).1/\ao P own all rest (S.app dst (l8 (S.ev x) i).2) ((l8 (S.ev x) i).2.foot::fs) K):=Eq.trans rfl rfl
@[go_sem] theorem US {b:Builtin}{as:Array Operand}{Z:Array TypeId}:ao P own all (⟨dst, .call ⟨.builtin b,as,Z⟩,ty,pos,af,none⟩::rest) S fs K=
  ((jp P S.objs dst b Z.toList (as.toList.map S.ev)).1/\ao P own all rest (S.app dst (jp P S.objs dst b Z.toList (as.toList.map S.ev)).2) ((jp P S.objs dst b Z.toList (as.toList.map S.ev)).2.foot::fs) K):=Eq.trans rfl rfl
theorem Ho {f:Operand}{as:Array Operand}{Z:Array TypeId}(r:D)(h:qt P S.objs (S.ev f) (as.toList.map S.ev) r)
  (Y:ao P own all rest (S.put dst (.d r)) (((as.toList.map S.ev).flatMap (PV.refs S.objs 4),[])::fs) K):
  ao P own all (⟨dst, .call ⟨.value f,as,Z⟩,ty,pos,af,none⟩::rest) S fs K:= .inl ⟨r,h,Y⟩
theorem Hq {f:Operand}{as:Array Operand}{Z:Array TypeId}(e:Eff)(h:CallCondM P S.objs (S.ev f) (as.toList.map S.ev) e)(Y:ao P own all rest (S.app dst e) (e.foot::fs) K):
  ao P own all (⟨dst, .call ⟨.value f,as,Z⟩,ty,pos,af,none⟩::rest) S fs K:= .inr ⟨e,h,Y⟩
def wpG (P:Program)(own:Nat->Bool)(all:List Oper)(_t:Option Nat)(g:Option (Option Bool))(Z:Bool)(o:Oper)(rest:List Oper)(S:St)(fs:List cH)(K:St->List cH->Prop):Prop:=match g with
 |some g=>if g=some Z then ao P own all (o::rest) S fs K else ao P own all rest (S.put o.dst .und) (([],[])::fs) K
 |none=>False
variable {t:Option Nat}{o:Oper}{w:Bool}
@[go_sem] theorem W8 :wpG P own all t (some (some true)) true o rest S fs K=ao P own all (o::rest) S fs K:=Eq.trans rfl rfl
@[go_sem] theorem W4 :wpG P own all t (some (some false)) false o rest S fs K=ao P own all (o::rest) S fs K:=Eq.trans rfl rfl
@[go_sem] theorem W7 :wpG P own all t (some (some true)) false o rest S fs K=ao P own all rest (S.put o.dst .und) (([],[])::fs) K:=Eq.trans rfl rfl
@[go_sem] theorem W5 :wpG P own all t (some (some false)) true o rest S fs K=ao P own all rest (S.put o.dst .und) (([],[])::fs) K:=Eq.trans rfl rfl
@[go_sem] theorem W6 :wpG P own all t (some none) w o rest S fs K=ao P own all rest (S.put o.dst .und) (([],[])::fs) K:=Eq.trans rfl rfl
@[go_sem] theorem UX {op:Op}{j:Nat}{Z:Bool}:ao P own all (⟨dst,op,ty,pos,af,some (j,Z)⟩::rest) S fs K=
  wpG P own all ((all[j]?).bind (·.dst)) (grd all S j) Z ⟨dst,op,ty,pos,af,none⟩ rest S fs K:=Eq.trans rfl rfl
theorem bB {T:Option Nat}{u:Nat}{Z b:Bool}(U:T=some u)(V:S.env u= .d (.sc (.bool b)))
  (Y:b=true->wpG P own all none (some (some true)) Z o rest ⟨upd u (.d (.sc (.bool true))) S.env,S.objs⟩ fs K)
  (X:b=false->wpG P own all none (some (some false)) Z o rest ⟨upd u (.d (.sc (.bool false))) S.env,S.objs⟩ fs K):
  wpG P own all T (some (some b)) Z o rest S fs K:=by
 have e:∀c,b=c->(⟨upd u (.d (.sc (.bool c))) S.env,S.objs⟩:St)=S:=by
  rintro c rfl;have:upd u (.d (.sc (.bool b))) S.env=S.env:=by
   funext i
   by_cases h:i=u
   ·subst h;rw[upd,if_pos rfl,V]
   ·rw[upd,if_neg h]
  rw[this]
 cases b
 ·have:=X rfl;rw[e false rfl]at this;exact this
 ·have:=Y rfl;rw[e true rfl]at this;exact this
@[go_sem] theorem UH {env:Nat->PV}{objs:Nat->Ob}{t:Nat}{x:PV}:(St.mk env objs).put (some t) x=⟨upd t x env,objs⟩:=rfl
@[go_sem] theorem UI {S:St}{x:PV}:S.put none x=S:=rfl
@[go_sem] theorem UA {env:Nat->PV}{objs:Nat->Ob}{t:Nat}:(St.mk env objs).ev (.tmp t)=env t:=rfl
@[go_sem] theorem Uw {env:Nat->PV}{objs:Nat->Ob}{f:Nat}:(St.mk env objs).ev (.func f)= .d (.fn f []):=rfl
@[go_sem] theorem Ux {env:Nat->PV}{objs:Nat->Ob}{k:IntKind}{n:Int}:(St.mk env objs).ev (.const (.int k n))= .d (.sc (.int k n)):=rfl
@[go_sem] theorem Uv {env:Nat->PV}{objs:Nat->Ob}{b:Bool}:(St.mk env objs).ev (.const (.bool b))= .d (.sc (.bool b)):=rfl
@[go_sem] theorem Uz {env:Nat->PV}{objs:Nat->Ob}{s:ByteArray}:(St.mk env objs).ev (.const (.string s))= .d (.sc (.string s)):=rfl
@[go_sem] theorem Uy {env:Nat->PV}{objs:Nat->Ob}:(St.mk env objs).ev (.const (.slice none 0 0))= .nilS:=rfl
@[go_sem] theorem Uu {env:Nat->PV}{objs:Nat->Ob}{cs:Array Value}:(St.mk env objs).ev (.const (.agg cs))= .ag (cs.toList.map lF):=rfl
@[go_sem] theorem Uj {env:Nat->PV}{objs:Nat->Ob}{t:Nat}{x:PV}{Z:List (Nat×Ob)}{Y:List Nat}:(St.mk env objs).app (some t) ⟨x,Z,Y⟩=⟨upd t x env,wrs Z objs⟩:=rfl
@[go_sem] theorem Uk {env:Nat->PV}{objs:Nat->Ob}{x:PV}{Z:List (Nat×Ob)}{Y:List Nat}:(St.mk env objs).app none ⟨x,Z,Y⟩=⟨env,wrs Z objs⟩:=rfl
@[go_sem] theorem Xa {objs:Nat->Ob}:wrs [] objs=objs:=rfl
@[go_sem] theorem W9 {objs:Nat->Ob}{o:Nat}{Z:Ob}{r:List (Nat×Ob)}:wrs ((o,Z)::r) objs=upd o Z (wrs r objs):=rfl
@[go_sem] theorem UB {x:PV}{Y:List (Nat×Ob)}{Z:List Nat}:Eff.foot ⟨x,Y,Z⟩=(Z,Y.map (·.1)):=rfl
@[go_sem] theorem W2 {Z:Type}{i:Nat}{x:Z}{f:Nat->Z}:upd i x f i=x:=if_pos rfl
@[go_sem] theorem W1 {Z:Type}{i j:Nat}{x:Z}{f:Nat->Z}:upd i x f j=if j=i then x else f j:=rfl
@[go_sem] theorem Up {v:Value}:(PV.d (.sc v)).cells?=some [.d (.sc v)]:=rfl
@[go_sem] theorem Um {cs:List D}:(PV.d (.ag cs)).cells?=some (cs.map .d):=rfl
@[go_sem] theorem Uq {l:List D}:(PV.d (.sl l)).cells?=some [.d (.sl l)]:=rfl
@[go_sem] theorem Uo {l:List D}:(PV.d (.pt l)).cells?=some [.d (.pt l)]:=rfl
@[go_sem] theorem Un {f:FuncId}{l:List D}:(PV.d (.fn f l)).cells?=some [.d (.fn f l)]:=rfl
@[go_sem] theorem Ul {cs:List PV}:(PV.ag cs).cells?=some cs:=rfl
@[go_sem] theorem Ut {o sz off len cap:Nat}:(PV.ref o sz off len cap).cells?=some [.ref o sz off len cap]:=rfl
@[go_sem] theorem Us {o sz i c:Nat}:(PV.ptr o sz i c).cells?=some [.ptr o sz i c]:=rfl
@[go_sem] theorem Ur :PV.nilS.cells?=some [.nilS]:=rfl
attribute [go_sem] D.cells PV.agg? PV.asD lF ldD ldP lj mkD su pG j5 j6 pp nL nO lL fY dZ xu mJ mI fy jv nP nS nM nY nW l8 nX mK oI nV nR nK qc nQ nU jo wL rC rV ip om l6 nT js jt jr ju jq j7 sw y9 nN l7 jp dB ew mm D.notTup D.ofCells cellD grd toD PV.refs
attribute [go_sem] Md mq PV.frz PV.frzL Ob.frz PV.ren PV.renL Ob.ren et m6 true_or or_true kW
attribute [go_sem] Bu yQ List.take_nil Ak qD List.drop_nil uS uY uV uU uC yS gB gK kI qM List.mapM_nil kT List.all_cons List.all_nil List.head?_cons
 qB Ca yN Option.bind_some Option.bind_none Option.pure_def Option.bind_eq_bind yM uK uJ Cc jQ kX As zS Cv
 if_true jH Ds Dv Dc qK ne_eq not_false_eq_true not_true_eq_false Dl Cf jZ Bool.and_true Ao zY Co Au List.mem_nil_iff yI gV false_implies implies_true forall_const Cp or_true false_or
@[go_sem low] theorem Vi {Z:Type}{cs:List Z}{off:Nat}{xs:List Z}:dI cs off xs=cs.take off++xs++cs.drop (off+xs.length):=rfl
def pd (objs:Nat->Ob)(dst:Option Nat)(st U Z:TyI)(s x:PV)(xs:Option (List D)):CE:=
 match xs,dst with
 |some xs,some t=>
  match s with
  | .ref o V X len _=>match objs o with
   | .row Y l=>(st.kind=1/\U.kind=1/\Z.zok=true/\Z.bytes<=128/\(∀d,d∈xs->d.cells.length=Z.size)/\objs t= .dead/\V=Z.size/\V=Y/\X=0/\len<=l.length/\roomy (len+xs.length),
     {val:= .ref t V 0 (len+xs.length) (len+xs.length),wr:=[(t, .row Y (l.take len++xs)),(o, .gone)],rd:=ew x})
   |_=> .no
  | .nilS=>(st.kind=1/\U.kind=1/\Z.zok=true/\Z.bytes<=128/\(∀d,d∈xs->d.cells.length=Z.size)/\objs t= .dead/\roomy xs.length,
     {val:= .ref t Z.size 0 xs.length xs.length,wr:=[(t, .row Z.size xs)],rd:=ew x})
  | .z0=>(st.kind=1/\U.kind=1/\Z.zok=true/\Z.bytes<=128/\(∀d,d∈xs->d.cells.length=Z.size)/\objs t= .dead/\roomy xs.length,
     {val:= .ref t Z.size 0 xs.length xs.length,wr:=[(t, .row Z.size xs)],rd:=ew x})
  |_=> .no
 |_,_=> .no
def vl (objs:Nat->Ob)(t:Nat)(st Y Z:TyI)(o sz off len:Nat)(xs:List D)(x:PV):Ob->CE
 | .row s l=>(st.kind=1/\Y.kind=1/\Z.zok=true/\Z.bytes<=128/\(∀d,d∈xs->d.cells.length=Z.size)/\objs t= .dead/\sz=Z.size/\sz=s/\off=0/\len<=l.length/\roomy (len+xs.length),
     {val:= .ref t sz 0 (len+xs.length) (len+xs.length),wr:=[(t, .row s (l.take len++xs)),(o, .gone)],rd:=ew x})
 |_=> .no
@[go_sem] theorem Vh {objs:Nat->Ob}{dst:Option Nat}{st Y Z:TyI}{s x:PV}:ib objs dst st Y Z s x=pd objs dst st Y Z s x (dB objs x):=by
 unfold ib pd;rfl
@[go_sem] theorem Ug {objs:Nat->Ob}{t:Nat}{st Y Z:TyI}{o sz off len cap:Nat}{x:PV}{xs:List D}:pd objs (some t) st Y Z (.ref o sz off len cap) x (some xs)=vl objs t st Y Z o sz off len xs x (objs o):=by
 simp only[pd,vl]
@[go_sem] theorem Ui {objs:Nat->Ob}{t:Nat}{st Y Z:TyI}{o sz s off len:Nat}{x:PV}{xs l:List D}:vl objs t st Y Z o sz off len xs x (.row s l)=
  (st.kind=1/\Y.kind=1/\Z.zok=true/\Z.bytes<=128/\(∀d,d∈xs->d.cells.length=Z.size)/\objs t= .dead/\sz=Z.size/\sz=s/\off=0/\len<=l.length/\roomy (len+xs.length),
     {val:= .ref t sz 0 (len+xs.length) (len+xs.length),wr:=[(t, .row s (l.take len++xs)),(o, .gone)],rd:=ew x}):=rfl
@[go_sem] theorem Uf {objs:Nat->Ob}{t:Nat}{st Y Z:TyI}{x:PV}{xs:List D}:pd objs (some t) st Y Z .nilS x (some xs)=
  (st.kind=1/\Y.kind=1/\Z.zok=true/\Z.bytes<=128/\(∀d,d∈xs->d.cells.length=Z.size)/\objs t= .dead/\roomy xs.length,
     {val:= .ref t Z.size 0 xs.length xs.length,wr:=[(t, .row Z.size xs)],rd:=ew x}):=rfl
@[go_sem] theorem Uh {objs:Nat->Ob}{t:Nat}{st Y Z:TyI}{x:PV}{xs:List D}:pd objs (some t) st Y Z .z0 x (some xs)=
  (st.kind=1/\Y.kind=1/\Z.zok=true/\Z.bytes<=128/\(∀d,d∈xs->d.cells.length=Z.size)/\objs t= .dead/\roomy xs.length,
     {val:= .ref t Z.size 0 xs.length xs.length,wr:=[(t, .row Z.size xs)],rd:=ew x}):=rfl
end rules
end Go.PS
