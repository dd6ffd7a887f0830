/- The relation between symbolic and real states, calls as functions on data, the effect of each operation, and a region's run. -/
import Derived.Test.YtjjbhjnpeenbkaaGreatDoorPSAlias
set_option linter.unusedSimpArgs false
set_option linter.unusedVariables false
set_option maxHeartbeats 16000000
namespace Go.PS
open Go
inductive D.At (w:World)(X:Nat->Prop):D->Value->Prop
 |sc (v:Value) (h:v.oneCell'=true):D.At w X (.sc v) v
 |ag (cs:List D) (arr:Array Value) (hsz:arr.size=cs.length) (hone:∀(j:Nat) (v:Value),arr[j]? =some v->v.oneCell'=true)
  (h:∀(j:Nat) d v,cs[j]? =some d->arr[j]? =some v->D.At w X d v):D.At w X (.ag cs) (.agg arr)
 |slnil (base:Option Addr) (cap:Nat):D.At w X (.sl []) (.slice base 0 cap)
 |sl (l:List D) (b off cap sz:Nat) (hl:l.length<=cap) (hc:cap<=maxLen)
  (hsz:∀d,d∈l->d.cells.length=sz)
  (vals:Nat->Nat->Value)
  (hv:∀(i:Nat) d (j:Nat) c,l[i]? =some d->d.cells[j]? =some c->w.cell? ⟨b,off+i*sz+j,none⟩=some (vals i j)/\(vals i j).oneCell'=true/\¬X b)
  (h:∀(i:Nat) d (j:Nat) c,l[i]? =some d->d.cells[j]? =some c->D.At w X c (vals i j)):
  D.At w X (.sl l) (.slice (some ⟨b,off,none⟩) l.length cap)
 |tup (cs:List D) (arr:Array Value) (hsz:arr.size=cs.length)
  (h:∀(j:Nat) d v,cs[j]? =some d->arr[j]? =some v->D.At w X d v):D.At w X (.tup cs) (.tuple arr)
 |pt (cs:List D) (b off:Nat)
  (vals:Nat->Value)
  (hv:∀(j:Nat) c,cs[j]? =some c->w.cell? ⟨b,off+j,none⟩=some (vals j)/\(vals j).oneCell'=true/\¬X b)
  (h:∀(j:Nat) c,cs[j]? =some c->D.At w X c (vals j)):
  D.At w X (.pt cs) (.pointer (some ⟨b,off,none⟩))
 |fn (f:FuncId) (cs:List D) (arr:Array Value) (hsz:arr.size=cs.length)
  (h:∀(j:Nat) d v,cs[j]? =some d->arr[j]? =some v->D.At w X d v):D.At w X (.fn f cs) (.func (.func f) #[] arr)
def ZhH (w:World)(X:Nat->Prop)(ds:List D)(vs:Array Value):Prop:=
 vs.size=ds.length/\∀(j:Nat) d v,ds[j]? =some d->vs[j]? =some v->D.At w X d v
def Zjz (P:Program)(f:FuncId):Prop:=∃fn,P.funcs[f]? =some fn/\fn.body.isNone=false/\(fn.name== "runtime.NumGoroutine")=false
def Zew :List Int:=[0,1,56,2,57,49,28,3,61,58,42,50,38,29,17,4,62,47,59,36,45,43,51,22,53,39,33,30,24,18,12,5,63,55,48,27,60,41,37,16,46,35,44,21,52,32,23,11,54,26,40,15,34,20,31,10,25,14,19,9,13,8,7,6]
def tabs (P:Program):List (Nat×List Int):=match P.globalNamed "math/bits.deBruijn64tab" with
 |some g=>[(g,Zew)]
 |none=>[]
def Zer (T:List (Nat×List Int))(w:World)(X:Nat->Prop):Prop:=
 ∀q,q∈T->q.1<w.heap.size/\¬X q.1/\∀(j:Nat) v,q.2[j]? =some v->w.cell? ⟨q.1,j,none⟩=some (.int .u8 v)
def ZfD :List (Nat×List Int)->Nat->List D
 |[],_=>[]
 |(h,l)::r,g=>if h=g then l.map λ v=> .sc (.int .u8 v)else ZfD r g
def Zhs (T:List (Nat×List Int))(g:Nat)(ty:TyI)(esz:Nat)(i:PV):CE:=
 match i with
 | .d (.sc (.int .u64 n))=>(ty.kind=2/\esz=1/\0<=n/\n.toNat<ty.len/\n.toNat<(ZfD T g).length, .v (.d (.pt ((ZfD T g).drop n.toNat))))
 |_=> .no
def Zaa (P:Program)(f:FuncId)(args:List D)(r:D):Prop:=
 Zjz P f/\∀(w:World) (X:Nat->Prop) (vs:Array Value),(∀b,X b->b<w.heap.size)->ZhH w X args vs->Zer (tabs P) w X->
  Calls P f vs w λ e w'=>∃v,e= .returned v/\D.At w' X r v/\RowKit.Below w.heap.size w w'
def roomy (n:Nat):Prop:=n<=1099511627776
def ZbS (objs:Nat->Ob):PV->Option (List D)
 | .d (.sl l)=>some l
 | .nilS=>some []
 | .z0=>some []
 | .ref o sz off len _=>match objs o with
   | .row sz' l=>if sz=sz'/\off+len<=l.length then some ((l.drop off).take len)else none
   |_=>none
 |_=>none
def ZcB :PV->List Nat
 | .ref o _ _ _ _=>[o]
 |_=>[]
def ZdY (objs:Nat->Ob)(dst:Option Nat)(st xt ety:TyI)(s x:PV):CE:=
 match ZbS objs x,dst with
 |some xs,some t=>
  match s with
  | .ref o sz off len _=>match objs o with
   | .row sz' l=>(st.kind=1/\xt.kind=1/\ety.zok=true/\ety.bytes<=128/\(∀d,d∈xs->d.cells.length=ety.size)/\objs t= .dead/\sz=ety.size/\sz=sz'/\off=0/\len<=l.length/\roomy (len+xs.length),
     {val:= .ref t sz 0 (len+xs.length) (len+xs.length),wr:=[(t, .row sz' (l.take len++xs)),(o, .gone)],rd:=ZcB x})
   |_=> .no
  | .nilS=>(st.kind=1/\xt.kind=1/\ety.zok=true/\ety.bytes<=128/\(∀d,d∈xs->d.cells.length=ety.size)/\objs t= .dead/\roomy xs.length,
     {val:= .ref t ety.size 0 xs.length xs.length,wr:=[(t, .row ety.size xs)],rd:=ZcB x})
  | .z0=>(st.kind=1/\xt.kind=1/\ety.zok=true/\ety.bytes<=128/\(∀d,d∈xs->d.cells.length=ety.size)/\objs t= .dead/\roomy xs.length,
     {val:= .ref t ety.size 0 xs.length xs.length,wr:=[(t, .row ety.size xs)],rd:=ZcB x})
  |_=> .no
 |_,_=> .no
def Zkl :Ob->Option PV
 | .cells [p]=>some p
 | .cells []=>none
 | .cells (_::_::_)=>none
 | .dead=>none
 | .gone=>none
 | .row _ _=>none
 | .imap _=>none
 | .iter _ _ _=>none
def Zd3 (objs:Nat->Ob):PV->Option (PV×Nat)
 | .ref o sz off len _=>match Zkl (objs o)with
  |some p=>if sz=1/\off=0/\len=1 then some (p,o)else none
  |none=>none
 | .d _=>none
 | .ptr _ _ _ _=>none
 | .nilS=>none
 | .z0=>none
 | .ag _=>none
 | .tup _=>none
 | .fn _ _=>none
 | .unk=>none
 | .und=>none
 | .ab=>none
 | .mp _=>none
 | .ifp _ _=>none
def ZhU :Ob->Option (List PV)
 | .cells cs=>some cs
 | .row sz l=>if sz=1/\l.isEmpty=true then some []else none
 | .dead=>none
 | .gone=>none
 | .imap _=>none
 | .iter _ _ _=>none
def Zgb (objs:Nat->Ob)(dst:Option Nat)(st xt ety:TyI)(s p:PV)(o2:Nat):CE:=
 match dst,s with
 |some t, .ref o sz off len _=>match ZhU (objs o)with
  |some cs=>(st.kind=1/\xt.kind=1/\ety.zok=true/\ety.size=1/\ety.bytes<=128/\objs t= .dead/\sz=1/\off=0/\len<=cs.length/\roomy (len+1),
   {val:= .ref t 1 0 (len+1) (len+1),wr:=[(t, .cells (cs.take len++[p])),(o, .gone)],rd:=[o2]})
  |none=> .no
 |_,_=> .no
def Zjk (objs:Nat->Ob)(st ety:TyI)(s x:PV):CE:=
 match ZbS objs x,s with
 |some xs, .ref o sz off len _=>match objs o with
  | .row sz' l=>(st.kind=1/\ety.zok=true/\sz=ety.size/\sz=sz'/\off=0/\len=l.length/\xs.length=len/\(∀d,d∈xs->d.cells.length=sz),{val:= .int len,wr:=[(o, .row sz xs)],rd:=ZcB x})
  |_=> .no
 |_,_=> .no
def Zhv (ty:TyI)(objs:Nat->Ob)(x:PV):CE:=
 match x with
 | .mp o=>match objs o with
  | .imap l=>(ty.kind=7,{val:= .int l.length,rd:=[o]})
  |_=> .no
 | .d (.sc (.string s))=>(ty.kind=8, .v (.int s.size))
 |_=> .no
def Zc4 (s:ByteArray):List Int:=s.data.toList.map λ b=>(b.toNat:Int)
def Zdw (s:ByteArray):List D:=(Zc4 s).map λ b=> .sc (.int .u8 b)
def Zhn (ty:TyI)(x i:PV):CE:=
 match x,i with
 | .d (.sc (.string s)), .d (.sc (.int .i64 n))=>(ty.kind=8/\0<=n/\n.toNat<s.size, .v (.d (.sc (.int .u8 ((Zc4 s).getD n.toNat 0)))))
 |_,_=> .no
def ZiG (op:BinOp)(a b:Int):Prop×Bool:=
 match op with
 | .eql=>(True,decide (a=b))
 | .neq=>(True, !decide (a=b))
 | .lss=>(True,decide (a<b))
 | .leq=>(True,decide (a<=b))
 | .gtr=>(True,decide (b<a))
 | .geq=>(True,decide (b<=a))
 |_=>(False,false)
def ZeI (P:Program)(objs:Nat->Ob)(dst:Option Nat)(b:Builtin)(tys:List TypeId)(xs:List PV):CE:=
 match b,tys,xs with
 | .len,[t],[x]=>match ZdC x with
  |some n=>((tyi P t).kind=1, .v (.int n))
  |none=>Zhv (tyi P t) objs x
 | .min,_,[.d (.sc (.int .i64 a)), .d (.sc (.int .i64 c))]=> .v (.int (if c<a then c else a))
 | .max,_,[.d (.sc (.int .i64 a)), .d (.sc (.int .i64 c))]=> .v (.int (if a<c then c else a))
 | .min,_,[.d (.sc (.int .i64 a)), .d (.sc (.int .i64 c)), .d (.sc (.int .i64 e))]=> .v (.int (if e<(if c<a then c else a)then e else(if c<a then c else a)))
 | .max,_,[.d (.sc (.int .i64 a)), .d (.sc (.int .i64 c)), .d (.sc (.int .i64 e))]=> .v (.int (if(if a<c then c else a)<e then e else(if a<c then c else a)))
 | .append,[t,u],[s,x]=>match Zd3 objs x with
  |some (p,o2)=>Zgb objs dst (tyi P t) (tyi P u) (tyi P (tyi P t).elem) s p o2
  |none=>ZdY objs dst (tyi P t) (tyi P u) (tyi P (tyi P t).elem) s x
 | .copy,[t,_],[s,x]=>Zjk objs (tyi P t) (tyi P (tyi P t).elem) s x
 |_,_,_=> .no
def ZgI (objs:Nat->Ob)(dst:Option Nat)(cs:Option (List PV)):CE:=
 match dst,cs with
 |some t,some cs=>(objs t= .dead,{val:= .ptr t 0 0 0,wr:=[(t, .cells cs)]})
 |_,_=> .no
def Zdc (ty:TyI)(objs:Nat->Ob)(a:PV):CE:=
 match a with
 | .d (.pt cs)=>(ty.ok=true/\(ldD ty cs).1, .v (.d (ldD ty cs).2))
 | .ptr o sz i c=>(ty.ok=true/\(Zfy ty (objs o) sz i c).1,{val:=(Zfy ty (objs o) sz i c).2,rd:=[o]})
 |_=> .no
def ZeO (ty:TyI)(objs:Nat->Ob)(a:PV)(x:Option (List PV)):CE:=
 match a,x with
 | .ptr o sz i c,some vs=>(vs.length=ty.size/\ty.ok=true/\(ZkB (objs o) sz i c vs).1,{val:= .unk,wr:=[(o,(ZkB (objs o) sz i c vs).2)]})
 |_,_=> .no
def Zhr (P:Program)(ty:TyI)(f:Nat)(x:PV):CE:=
 match ty.fields[f]? with
 |some (off,ft)=>
  match x with
  | .d (.pt cs)=>(ty.kind=3/\P.cellsOf ft≠0, .v (.d (.pt (cs.drop off))))
  | .ptr o sz i c=>(ty.kind=3/\P.cellsOf ft≠0, .v (.ptr o sz i (c+off)))
  |_=> .no
 |none=> .no
def Zhu (ty:TyI)(esz:Nat)(x i:PV):CE:=
 match x,i with
 | .d (.sl l), .d (.sc (.int .i64 n))=>(ty.kind=1/\esz≠0/\0<=n/\n.toNat<l.length/\(l[n.toNat]?.getD default).cells.length=esz, .v (.d (.pt (l[n.toNat]?.getD default).cells)))
 | .ref o sz off len _, .d (.sc (.int .i64 n))=>(ty.kind=1/\esz≠0/\0<=n/\n.toNat<len/\sz=esz, .v (.ptr o sz (off+n.toNat) 0))
 | .ptr o sz i c, .d (.sc (.int .i64 n))=>(ty.kind=2/\esz≠0/\0<=n/\n.toNat<ty.len, .v (.ptr o sz i (c+n.toNat*esz)))
 |_,_=> .no
def Zca :PV->Option PV
 | .nilS=>some (.bool true)
 | .z0=>some .ab
 | .d (.sl l)=>some (if l.isEmpty then .ab else .bool false)
 | .ref _ _ _ len cap=>some (if len=0/\cap=0 then .ab else .bool false)
 |_=>none
def Zog :PV->PV
 | .d (.sc (.bool b))=> .bool (!b)
 |x=>x
def Zho (op:BinOp)(ty:TyI)(x y:PV):CE:=
 match x,y with
 |x, .nilS=>match Zca x with
  |some r=>(ty.kind=1/\(op= .eql\/op= .neq), .v (if op= .eql then r else Zog r))
  |none=> .no
 | .d (.sc (.int .i64 a)), .d (.sc (.int .i64 b))=>((ZeZ op a b).1, .v (.d (.sc (ZeZ op a b).2)))
 | .d (.sc (.int .i64 a)), .d (.sc (.int .u64 b))=>((op= .shl\/op= .shr)/\(ZeZ op a b).1, .v (.d (.sc (ZeZ op a b).2)))
 | .d (.sc (.int .u64 a)), .d (.sc (.int .u64 b))=>((Ze0 op a b).1, .v (.d (.sc (Ze0 op a b).2)))
 | .d (.sc (.int .u64 a)), .d (.sc (.int .i64 b))=>((op= .shl\/op= .shr)/\(Ze0 op a b).1, .v (.d (.sc (Ze0 op a b).2)))
 | .d (.sc (.bool a)), .d (.sc (.bool b))=>(ty.kind=6/\(op= .eql\/op= .neq), .v (.bool (if op= .eql then decide (a=b)else !decide (a=b))))
 | .d (.sc (.int .u8 a)), .d (.sc (.int .u8 b))=>((ZiG op a b).1, .v (.bool (ZiG op a b).2))
 | .d (.sc (.string a)), .d (.sc (.string b))=>((op= .eql\/op= .neq), .v (.bool (if op= .eql then decide (a=b)else !decide (a=b))))
 |p,q=>match p.agg?,q.agg? with
  |some cs,some ds=>match ZfU cs ds with
   |some t=>(ty.peq=true/\cs.length=ty.size/\(op= .eql\/op= .neq), .v (.bool (if op= .eql then t else !t)))
   |none=> .no
  |_,_=> .no
def Zhq (us ud:Option TypeDesc)(ty ety:TyI)(x:PV):CE:=
 match us,ud,x with
 |some _,some (.int k), .d (.sc (.int _ n))=> .v (.d (.sc (.int k (k.wrap n))))
 |some _,some _, .d (.sc (.string s))=>(ty.kind=1/\ety.bk=true/\roomy s.size, .v (.d (.sl (Zdw s))))
 |_,_,_=> .no
def ZhA (op:UnOp)(x:PV):CE:=
 match op,x with
 | .not, .d (.sc (.bool b))=> .v (.bool (!b))
 | .not, .ab=> .v .ab
 | .neg, .d (.sc (.int .i64 a))=> .v (.int (IntKind.i64.wrap (-a)))
 | .neg, .d (.sc (.int .u64 a))=> .v (.d (.sc (.int .u64 (IntKind.u64.wrap (-a)))))
 |_,_=> .no
def Zhy (c a b:PV):CE:=
 match c with
 | .d (.sc (.bool t))=> .v (if t then a else b)
 |_=> .no
def Ze1 (dflt:Nat):Option PV->Option Int
 |none=>some dflt
 |some (.d (.sc (.int .i64 n)))=>some n
 |_=>none
def ZkD (l h:Nat):PV->PV
 | .d (.sl xs)=> .d (.sl ((xs.take h).drop l))
 | .ref o sz off _ cap=> .ref o sz (off+l) (h-l) (cap-l)
 | .nilS=> .nilS
 | .z0=> .z0
 |x=>x
def Zo9 (esz:Nat):PV->Prop
 | .d (.sl xs)=>∀d,d∈xs->d.cells.length=esz
 | .ref _ sz _ _ _=>sz=esz
 |_=>True
def Zhz (ty:TyI)(esz:Nat)(x:PV)(lo hi mx:Option PV):CE:=
 match ZdC x,Ze1 0 lo with
 |some len,some l=>match Ze1 len hi,mx with
  |some h,none=>(ty.kind=1/\esz≠0/\0<=l/\l<=h/\h<=len/\Zo9 esz x, .v (ZkD l.toNat h.toNat x))
  |some h,some (.d (.sc (.int .i64 m)))=>(ty.kind=1/\esz≠0/\hi.isSome=true/\l=0/\h=0/\m=0, .v .z0)
  |_,_=> .no
 |_,_=> .no
def Zgd (x:PV)(i:Nat):CE:=
 match x with
 | .tup vs=>match vs[i]? with
  |some v=> .v v
  |none=> .no
 | .d (.tup vs)=>match vs[i]? with
  |some v=> .v (.d v)
  |none=> .no
 |_=> .no
def Zhp (ty:TyI)(ps:List (Nat×PV)):CE:=
 match ZiU (ty.places[·]?) (ty.zero.map ZfR) ps with
 |some cs=>(ty.zok=true/\ty.bok=true, .v (.ag cs))
 |none=> .no
def D.ofCells (agg:Bool)(cs:List D):D:=if agg then .ag cs else match cs with|[x]=>x|_=> .ag cs
def cellD :Value->D
 | .slice none 0 0=> .sl []
 |v=> .sc v
def Zgc (objs:Nat->Ob)(dst:Option Nat)(own:Bool)(ty ety:TyI)(n:Nat)(ps:List (Nat×PV)):CE:=
 match Zgr ety.size (List.replicate n (.ofCells ety.agg (ety.zero.map cellD))) (ps.map λ p=>(p.1,toD objs 4 p.2))with
 |some l=>if own then match dst with
  |some t=>(ty.kind=1/\ety.zok=true/\n*ety.size<=16777216/\(ps.map (·.2)).flatMap (PV.refs objs 4)=[]/\objs t= .dead,{val:= .ref t ety.size 0 n n,wr:=[(t, .row ety.size l)]})
  |none=> .no
  else(ty.kind=1/\ety.zok=true/\n*ety.size<=16777216/\(ps.map (·.2)).flatMap (PV.refs objs 4)=[],{val:= .d (.sl l)})
 |none=> .no
def ZnP :PV->Bool
 | .ref _ _ _ _ _=>true
 | .d _=>false
 | .ptr _ _ _ _=>false
 | .nilS=>false
 | .z0=>false
 | .ag _=>false
 | .tup _=>false
 | .fn _ _=>false
 | .unk=>false
 | .und=>false
 | .ab=>false
 | .mp _=>false
 | .ifp _ _=>false
def Zj0 :List (Nat×PV)->Bool
 |[]=>false
 |[q]=>ZnP q.2
 |_::_::_=>false
def ZeH (objs:Nat->Ob)(dst:Option Nat)(ty ety:TyI)(n:Nat)(ps:List (Nat×PV)):CE:=
 match dst,ps with
 |some t,[(i,p)]=>(ty.kind=1/\ety.zok=true/\ety.size=1/\n=1/\i=0/\ZnP p=true/\objs t= .dead,{val:= .ref t 1 0 1 1,wr:=[(t, .cells [p])]})
 |_,_=> .no
def ZgH (ty:TyI)(objs:Nat->Ob)(dst:Option Nat):CE:=
 match dst with
 |some t=>(ty.zok=true/\objs t= .dead,{val:= .ptr t 0 0 0,wr:=[(t, .cells (ty.zero.map ZfR))]})
 |none=> .no
def Zie :List Value->Bool
 |[.slice none 0 0]=>true
 |_=>false
def ZgJ (ty ety:TyI)(objs:Nat->Ob)(dst:Option Nat)(l c:PV):CE:=
 match dst,l,c with
 |some t, .d (.sc (.int .i64 n)), .d (.sc (.int .i64 m))=>
  (ty.kind=1/\ety.zok=true/\n=m/\0<=n/\(ety.bytes:Int)*n<=281474976710656/\n<=9223372036854775807/\objs t= .dead,
   {val:= .ref t ety.size 0 n.toNat n.toNat,wr:=[(t,if Zie ety.zero=true then .cells (List.replicate n.toNat .nilS)else .row ety.size (List.replicate n.toNat (.ofCells ety.agg (ety.zero.map cellD))))]})
 |_,_,_=> .no
def ZeL (ty:TyI)(objs:Nat->Ob)(dst:Option Nat):CE:=
 match dst with
 |some t=>(ty.kind=7/\objs t= .dead,{val:= .mp t,wr:=[(t, .imap [])]})
 |none=> .no
def ZeM (ty:TyI)(objs:Nat->Ob)(m k v:PV):CE:=
 match m,k,v with
 | .mp o, .d (.sc (.int .i64 a)), .d (.sc (.int .i64 c))=>match objs o with
  | .imap l=>(ty.kind=7,{val:= .unk,wr:=[(o, .imap (Zeg l a c))]})
  |_=> .no
 |_,_,_=> .no
def ZeK (ty:TyI)(objs:Nat->Ob)(m k:PV):CE:=
 match m,k with
 | .mp o, .d (.sc (.int .i64 a))=>match objs o with
  | .imap l=>(ty.kind=7,{val:= .int (Zbg l a),rd:=[o]})
  |_=> .no
 |_,_=> .no
def ZeN (ty:TyI)(objs:Nat->Ob)(dst:Option Nat)(m:PV):CE:=
 match dst,m with
 |some t, .mp o=>match objs o with
  | .imap l=>(ty.kind=7/\objs t= .dead,{val:= .ptr t 1 0 0,wr:=[(t, .iter o l.length [])],rd:=[o]})
  |_=> .no
 |_,_=> .no
def ZeJ (objs:Nat->Ob)(x:PV):CE:=
 match x with
 | .ptr o _ 0 0=>match objs o with
  | .iter m k sn=>match objs m,sn.getLast? with
   | .imap l,some j=>(l.length=k/\j<k,{val:= .tup [.int (l.getD j (0,0)).1, .int (l.getD j (0,0)).2],rd:=[o,m]})
   |_,_=> .no
  |_=> .no
 |_=> .no
def Zhx (x:PV):CE:=
 match x with
 | .d (.pt cs)=> .v (.d (.pt cs))
 | .ptr o sz i c=> .v (.ptr o sz i c)
 |_=> .no
def Zht (ty:TyI)(T:TypeId)(x:PV):CE:=
 match x with
 | .d (.sc (.int .i64 n))=>(ty.kind=5, .v (.d (.sc (.iface T (.int .i64 n)))))
 | .ptr o sz i c=>(ty.kind=4/\i*sz+c=0, .v (.ifp T o))
 |_=> .no
def Zhm (ty:TyI)(T:TypeId)(x:PV):CE:=
 match x with
 | .d (.sc (.iface t (.int .i64 n)))=>(ty.kind=5/\t=T, .v (.int n))
 |_=> .no
def Zhw (fn:Fn)(first:List PV)(caps:List PV):CE:=
 match fn,first with
 | .func f,[]=> .v (.fn f caps)
 |_,_=> .no
def Zti (own:Nat->Bool):Option Nat->Bool
 |some t=>own t
 |none=>false
def sem (P:Program)(own:Nat->Bool)(ev:Operand->PV)(objs:Nat->Ob)(dst:Option Nat)(op:Op):CE:=
 match op with
 | .move x=> .v (ev x)
 | .assign x=> .v (ev x)
 | .pick c a b=>Zhy (ev c) (ev a) (ev b)
 | .alloc T=>ZgH (tyi P T) objs dst
 | .box _ x=>ZgI objs dst (ev x).cells?
 | .build T ps=>Zhp (tyi P T) (ps.toList.map λ p=>(p.1,ev p.2))
 | .buildSlice T n ps=>if Zj0 (ps.toList.map λ p=>(p.1,ev p.2))=true then ZeH objs dst (tyi P T) (tyi P (tyi P T).elem) n (ps.toList.map λ p=>(p.1,ev p.2))
   else Zgc objs dst (Zti own dst) (tyi P T) (tyi P (tyi P T).elem) n (ps.toList.map λ p=>(p.1,ev p.2))
 | .load T a=>Zdc (tyi P T) objs (ev a)
 | .store T a x=>ZeO (tyi P T) objs (ev a) (ev x).cells?
 | .fieldAddr T x f=>Zhr P (tyi P T) f (ev x)
 | .indexAddr T (.global g) i=>Zhs (tabs P) g (tyi P T) (P.cellsOf (tyi P T).elem) (ev i)
 | .indexAddr T x i=>Zhu (tyi P T) (P.cellsOf (tyi P T).elem) (ev x) (ev i)
 | .makeInterface T x=>Zht (tyi P T) T (ev x)
 | .typeAssert x _ T false=>Zhm (tyi P T) T (ev x)
 | .binOp op T x y _=>Zho op (tyi P T) (ev x) (ev y)
 | .unOp op _ x=>ZhA op (ev x)
 | .convert src dst x=>Zhq (P.underlying src) (P.underlying dst) (tyi P dst) (tyi P (tyi P dst).elem) (ev x)
 | .index T x i=>Zhn (tyi P T) (ev x) (ev i)
 | .extract x i=>Zgd (ev x) i
 | .nilCheck x=>Zhx (ev x)
 | .slice T x lo hi mx=>Zhz (tyi P T) (P.cellsOf (tyi P T).elem) (ev x) (lo.map ev) (hi.map ev) (mx.map ev)
 | .makeSlice T l c=>ZgJ (tyi P T) (tyi P (tyi P T).elem) objs dst (ev l) (ev c)
 | .makeFunc fn first caps=>Zhw fn (first.toList.map ev) (caps.toList.map ev)
 | .makeMap T none=>ZeL (tyi P T) objs dst
 | .mapUpdate T m k v=>ZeM (tyi P T) objs (ev m) (ev k) (ev v)
 | .lookup T m k false=>ZeK (tyi P T) objs (ev m) (ev k)
 | .range T x=>ZeN (tyi P T) objs dst (ev x)
 | .entry x=>ZeJ objs (ev x)
 | .call c=>match c.callee with
  | .builtin b=>ZeI P objs dst b c.argTypes.toList (c.args.toList.map ev)
  |_=> .no
 |_=> .no
def Zjy (P:Program)(objs:Nat->Ob)(f:PV)(xs:List PV)(r:D):Prop:=
 ∃g caps args,f= .d (.fn g caps)/\xs.mapM (toD objs 4)=some args/\Zaa P g (args++caps) r/\(xs.flatMap (PV.refs objs 4)=[]\/r.flat 4=true)
mutual
def PV.ren (g:Nat->Nat):PV->PV
 | .ref o sz off len cap=> .ref (g o) sz off len cap
 | .ptr o sz i c=> .ptr (g o) sz i c
 | .ag cs=> .ag (PV.renL g cs)
 | .tup cs=> .tup (PV.renL g cs)
 | .fn f cs=> .fn f (PV.renL g cs)
 | .d x=> .d x
 | .nilS=> .nilS
 | .z0=> .z0
 | .unk=> .unk
 | .und=> .und
 | .ab=> .ab
 | .mp o=> .mp (g o)
 | .ifp T o=> .ifp T (g o)
def PV.renL (g:Nat->Nat):List PV->List PV
 |[]=>[]
 |c::cs=>PV.ren g c::PV.renL g cs
end
theorem PV.renL_eq (g:Nat->Nat):∀cs:List PV,PV.renL g cs=cs.map (PV.ren g)
 |[]=>rfl
 |c::cs=>by rw[PV.renL,PV.renL_eq g cs];rfl
def Ob.ren (g:Nat->Nat):Ob->Ob
 | .cells cs=> .cells (cs.map (PV.ren g))
 | .dead=> .dead
 | .gone=> .gone
 | .row sz l=> .row sz l
 | .imap l=> .imap l
 | .iter m k sn=> .iter (g m) k sn
def ZgW :PV->Option (FuncId×List PV)
 | .d (.fn g caps)=>some (g,caps.map .d)
 | .fn g caps=>some (g,caps)
 |_=>none
def ZcA (g:Nat->Nat)(M:List (Nat×Ob)):List (Nat×Ob):=M.map λ q=>(g q.1,q.2.ren g)
def bsz (w:World)(b:Nat):Nat:=match w.heap[b]? with|some (.cells c _ _)=>c.size|_=>0
def ownX (ι:Nat->Option Nat)(X:Nat->Prop):Nat->Prop:=λ b=>X b\/∃o,ι o=some b
inductive PV.At (w:World)(ι:Nat->Option Nat)(X:Nat->Prop):PV->Value->Prop
 |d (x:D) (v:Value) (h:D.At w (ownX ι X) x v):PV.At w ι X (.d x) v
 |ref (o sz off len cap capr b:Nat) (hι:ι o=some b) (hl:len<=capr) (hc:cap<=capr) (hm:capr<=maxLen) (hs:(off+capr)*sz=bsz w b):
  PV.At w ι X (.ref o sz off len cap) (.slice (some ⟨b,off*sz,none⟩) len capr)
 |ref0 (o sz off:Nat) (base:Option Addr):PV.At w ι X (.ref o sz off 0 0) (.slice base 0 0)
 |ptr (o sz i c b:Nat) (hι:ι o=some b):PV.At w ι X (.ptr o sz i c) (.pointer (some ⟨b,i*sz+c,none⟩))
 |nilS:PV.At w ι X .nilS (.slice none 0 0)
 |z0 (base:Option Addr):PV.At w ι X .z0 (.slice base 0 0)
 |ag (cs:List PV) (arr:Array Value) (hsz:arr.size=cs.length) (hone:∀(j:Nat) (v:Value),arr[j]? =some v->v.oneCell'=true)
  (h:∀(j:Nat) d v,cs[j]? =some d->arr[j]? =some v->PV.At w ι X d v):PV.At w ι X (.ag cs) (.agg arr)
 |tup (cs:List PV) (arr:Array Value) (hsz:arr.size=cs.length)
  (h:∀(j:Nat) d v,cs[j]? =some d->arr[j]? =some v->PV.At w ι X d v):PV.At w ι X (.tup cs) (.tuple arr)
 |fn (f:FuncId) (cs:List PV) (arr:Array Value) (hsz:arr.size=cs.length)
  (h:∀(j:Nat) d v,cs[j]? =some d->arr[j]? =some v->PV.At w ι X d v):PV.At w ι X (.fn f cs) (.func (.func f) #[] arr)
 |unk (v:Value):PV.At w ι X .unk v
 |und:PV.At w ι X .und undef
 |ab (b:Bool):PV.At w ι X .ab (.bool b)
 |mp (o b:Nat) (hι:ι o=some b):PV.At w ι X (.mp o) (.map (some b))
 |ifp (T o b:Nat) (hι:ι o=some b):PV.At w ι X (.ifp T o) (.iface T (.pointer (some ⟨b,0,none⟩)))
structure EntOk (es:Array MapEntry)(clock:Nat)(l:List (Int×Int)):Prop where
 kv:es.toList.map (λ e=>(e.key,e.val))=l.map λ p=>(Value.int .i64 p.1,Value.int .i64 p.2)
 born:es.toList.map (·.born)=List.range l.length
 clock:clock=l.length
inductive Ob.At (w:World)(ι:Nat->Option Nat)(X:Nat->Prop)(o:Nat):Ob->Prop
 |dead (h:ι o=none):Ob.At w ι X o .dead
 |gone:Ob.At w ι X o .gone
 |cells (cs:List PV) (b:Nat) (c:Array Value) (T:TypeId) (hι:ι o=some b) (hb:w.heap[b]? =some (.cells c T (0,0))) (hsz:cs.length<=c.size)
  (hone:∀(j:Nat) (v:Value),c[j]? =some v->v.oneCell'=true)
  (h:∀(j:Nat) p v,cs[j]? =some p->c[j]? =some v->PV.At w ι X p v):Ob.At w ι X o (.cells cs)
 |row0 (sz:Nat) (h:ι o=none):Ob.At w ι X o (.row sz [])
 |row (sz:Nat) (l:List D) (b:Nat) (c:Array Value) (T:TypeId) (hι:ι o=some b) (hb:w.heap[b]? =some (.cells c T (0,0))) (hsz:l.length*sz<=c.size)
  (hcl:∀d,d∈l->d.cells.length=sz)
  (hone:∀(j:Nat) (v:Value),c[j]? =some v->v.oneCell'=true)
  (h:∀(i:Nat) d (j:Nat) e v,l[i]? =some d->d.cells[j]? =some e->c[i*sz+j]? =some v->D.At w (ownX ι X) e v):Ob.At w ι X o (.row sz l)
 |imap (l:List (Int×Int)) (b:Nat) (es:Array MapEntry) (clock:Nat) (hι:ι o=some b) (hb:w.heap[b]? =some (.map es clock))
  (he:EntOk es clock l):Ob.At w ι X o (.imap l)
 |iter (m k:Nat) (sn:List Nat) (b bm:Nat) (hι:ι o=some b) (hm:ι m=some bm) (hb:w.heap[b]? =some (.mapIter (some bm) k sn.toArray k)):Ob.At w ι X o (.iter m k sn)
def Zbz :List (Nat×PV)->Nat->PV
 |[]=>λ _=> .unk
 |(i,v)::r=>upd i v (Zbz r)
def Zap :List (Nat×Ob)->Nat->Ob
 |[]=>λ _=> .dead
 |(i,v)::r=>upd i v (Zap r)
def PV.only (L:List Nat):Nat->PV->Bool
 |0,_=>false
 |_+1, .d _=>true
 |_+1, .unk=>true
 |_+1, .und=>true
 |_+1, .ab=>true
 |_+1, .nilS=>true
 |_+1, .z0=>true
 |_+1, .ref o _ _ _ _=>L.contains o
 |_+1, .ptr o _ _ _=>L.contains o
 |_+1, .mp o=>L.contains o
 |_+1, .ifp _ o=>L.contains o
 |n+1, .ag cs=>cs.all (PV.only L n)
 |n+1, .tup cs=>cs.all (PV.only L n)
 |n+1, .fn _ cs=>cs.all (PV.only L n)
def Ob.only (L:List Nat):Ob->Bool
 | .cells cs=>cs.all (PV.only L 4)
 | .iter m _ _=>L.contains m
 |_=>true
def Zag (P:Program)(f:FuncId)(args:List PV)(M:List (Nat×Ob))(r:PV)(M':List (Nat×Ob)):Prop:=
 Zjz P f/\∀(w:World) (ι:Nat->Option Nat) (X:Nat->Prop) (vs:Array Value),
  (∀b,X b->b<w.heap.size/\∀o,ι o≠some b)->(∀o o' b,Zap M o≠ .gone->Zap M o'≠ .gone->ι o=some b->ι o'=some b->o=o')->(∀o b,ι o=some b->b<w.heap.size)->
  vs.size=args.length->(∀(j:Nat) p v,args[j]? =some p->vs[j]? =some v->PV.At w ι X p v)->(∀o,Ob.At w ι X o (Zap M o))->(∀o b,ι o=some b->o∈M.map (·.1))->Zer (tabs P) w (ownX ι X)->
  Calls P f vs w λ e w'=>∃v ι',e= .returned v/\PV.At w' ι' X r v/\(∀o,Ob.At w' ι' X o (Zap M' o))/\(∀o b,ι' o=some b->o∈M'.map (·.1))/\
   (∀o o' b,Zap M' o≠ .gone->Zap M' o'≠ .gone->ι' o=some b->ι' o'=some b->o=o')/\(∀o b,ι' o=some b->¬X b/\((∃o',ι o'=some b)\/w.heap.size<=b)/\b<w'.heap.size)/\
   w'.os=w.os/\w'.tape=w.tape/\w'.output=w.output/\w.heap.size<=w'.heap.size/\
   (∀b,b<w.heap.size->(∀o,ι o≠some b)->w'.heap[b]? =w.heap[b]?)/\
   (∀o b,ι o=some b->ι' o=some b/\bsz w' b=bsz w b)
def PV.flatP :Nat->PV->Bool
 |0,_=>false
 |_+1, .d x=>x.flat 4
 |n+1, .ag cs=>cs.all (PV.flatP n)
 |n+1, .tup cs=>cs.all (PV.flatP n)
 |n+1, .fn _ cs=>cs.all (PV.flatP n)
 |_+1, .ref _ _ _ _ _=>true
 |_+1, .ptr _ _ _ _=>true
 |_+1, .nilS=>true
 |_+1, .z0=>true
 |_+1, .unk=>true
 |_+1, .und=>true
 |_+1, .ab=>true
 |_+1, .mp _=>true
 |_+1, .ifp _ _=>true
def Ob.flatP :Ob->Prop
 | .cells cs=>(cs.all (PV.flatP 4))=true
 | .row _ l=>∀d,d∈l->∀c,c∈d.cells->c.flat 4=true
 | .dead=>True
 | .gone=>True
 | .imap _=>True
 | .iter _ _ _=>True
def Zfl (objs:Nat->Ob)(g:Nat->Nat)(fl:Prop):List PV->List PV->Prop
 |[],[]=>True
 |x::xs,p::ps=>(x=p.ren g\/∃d,p= .d d/\toD objs 4 x=some d/\(x.refs objs 4=[]\/fl))/\Zfl objs g fl xs ps
 |_,_=>False
def ZkO (r:PV)(M M':List (Nat×Ob)):Prop:=r.flatP 4=true/\(∀q∈M,q.2.flatP)/\∀q∈M',q.2.flatP
structure CallCondM (P:Program)(objs:Nat->Ob)(f:PV)(xs:List PV)(e:Eff):Prop where
 ex:∃(h:FuncId) (caps args:List PV) (M M':List (Nat×Ob)) (r:PV) (g:Nat->Nat) (fl:Prop),
  ZgW f=some (h,caps)/\Zfl objs g fl (xs++caps) args/\Zag P h args M r M'/\
  M'.map (·.1)=M.map (·.1)/\(args.all (PV.only (M.map (·.1)) 4))=true/\(M.all λ q=>q.2.only (M.map (·.1)))=true/\
  r.only (M.map (·.1)) 4=true/\(M'.all λ q=>q.2.only (M.map (·.1)))=true/\
  (M.map λ q=>g q.1).Nodup/\(∀q∈M,objs (g q.1)=q.2.ren g)/\
  (∀q∈M,2000<=q.1->q.2= .dead)/\(∀q∈M,q.2≠ .gone)/\
  (fl->ZkO r M M'/\∀x∈xs++caps,∀o∈x.refs objs 4,o∉M.map λ q=>g q.1)/\
  e={val:=r.ren g,wr:=ZcA g M',rd:=(xs++caps).flatMap (PV.refs objs 4)}
def ZvW (P:Program)(T:TypeId)(m:String)(g:FuncId):Prop:=∀(x:Value) (w:World),(method (P.types.size+Made.depth) T x m).run P w= .ok (g,x) w
def ZvX (P:Program)(T:TypeId)(m:String)(g:FuncId)(t:TypeId):Prop:=
 ∀(b:Nat) (w:World),(method (P.types.size+Made.depth) T (.pointer (some ⟨b,0,none⟩)) m).run P w=(do let v<-loadVar t ⟨b,0,none⟩;pure (g,v):Sem (FuncId×Value)).run P w
def Inv (P:Program)(objs:Nat->Ob)(x:PV)(m:String)(g:FuncId)(recv:PV)(rd:List Nat):Prop:=
 ∃T o,x= .ifp T o/\((ZvW P T m g/\recv= .ptr o 0 0 0/\rd=[])\/
  ∃t,ZvX P T m g t/\(Zdc (tyi P t) objs (.ptr o 0 0 0)).1/\recv=(Zdc (tyi P t) objs (.ptr o 0 0 0)).2.val/\rd=[o])
abbrev Zbp :=List Nat×List Nat
def Eff.foot (e:Eff):Zbp:=(e.rd,e.wr.map (·.1))
def St.put (S:St)(dst:Option Nat)(x:PV):St:={env:=match dst with|some t=>upd t x S.env|none=>S.env,objs:=S.objs}
theorem ZaT (S:St)(dst:Option Nat)(x:PV):S.app dst {val:=x}=S.put dst x:=by
 cases dst<;>rfl
theorem ZiC (S:St)(dst:Option Nat)(x:PV)(rd:List Nat):S.app dst {val:=x,rd:=rd}=S.put dst x:=by
 cases dst<;>rfl
def wpOp (P:Program)(own:Nat->Bool)(o:Oper)(S:St)(fs:List Zbp)(k:St->List Zbp->Prop):Prop:=
 match o.op with
 | .call {callee:= .value f,args,.. }=>(∃r,Zjy P S.objs (S.ev f) (args.toList.map S.ev) r/\
   k (S.put o.dst (.d r)) (((args.toList.map S.ev).flatMap (PV.refs S.objs 4),[])::fs))\/
   ∃e,CallCondM P S.objs (S.ev f) (args.toList.map S.ev) e/\k (S.app o.dst e) (e.foot::fs)
 | .call {callee:= .invoke r m,args,.. }=>∃g recv rd e,Inv P S.objs (S.ev r) m g recv rd/\CallCondM P S.objs (.d (.fn g [])) (recv::args.toList.map S.ev) e/\
   k (S.app o.dst e) ((rd++e.rd,e.wr.map (·.1))::fs)
 |op=>(sem P own S.ev S.objs o.dst op).1/\k (S.app o.dst (sem P own S.ev S.objs o.dst op).2) ((sem P own S.ev S.objs o.dst op).2.foot::fs)
def grd (all:List Oper)(S:St)(j:Nat):Option (Option Bool):=
 match(all[j]?).bind (·.dst)with
 |some t=>match S.env t with
  | .d (.sc (.bool b))=>some (some b)
  | .und=>some none
  |_=>none
 |none=>none
def Zad (P:Program)(own:Nat->Bool)(all:List Oper):List Oper->St->List Zbp->(St->List Zbp->Prop)->Prop
 |[],S,fs,K=>K S fs
 |o::rest,S,fs,K=>
  match o.guard with
  |none=>wpOp P own o S fs λ S' fs'=>Zad P own all rest S' fs' K
  |some (j,want)=>
   match grd all S j with
   |some g=>if g=some want then wpOp P own o S fs λ S' fs'=>Zad P own all rest S' fs' K
    else Zad P own all rest (S.put o.dst .und) (([],[])::fs) K
   |none=>False
section rules
variable {P:Program}{own:Nat->Bool}{all rest:List Oper}{S:St}{fs:List Zbp}{K:St->List Zbp->Prop}{dst:Option Nat}{ty:TypeId}{pos:String}{af:Array Edge}
@[go_sem] theorem ZGJ :Zad P own all [] S fs K=K S fs:=rfl
end rules
section rules
variable {P:Program}{own:Nat->Bool}{all rest:List Oper}{S:St}{fs:List Zbp}{K:St->List Zbp->Prop}{dst:Option Nat}{ty:TypeId}{pos:String}{af:Array Edge}
@[go_sem] theorem ZGI {x:Operand}:Zad P own all (⟨dst, .move x,ty,pos,af,none⟩::rest) S fs K=Zad P own all rest (S.put dst (S.ev x)) (([],[])::fs) K:=by
 show(True/\Zad P own all rest (S.app dst {val:=S.ev x}) (([],[])::fs) K)=_;rw[ZaT,Dj]
@[go_sem] theorem ZGo {x:Operand}:Zad P own all (⟨dst, .assign x,ty,pos,af,none⟩::rest) S fs K=Zad P own all rest (S.put dst (S.ev x)) (([],[])::fs) K:=by
 show(True/\Zad P own all rest (S.app dst {val:=S.ev x}) (([],[])::fs) K)=_;rw[ZaT,Dj]
@[go_sem] theorem ZGL {c a b:Operand}:Zad P own all (⟨dst, .pick c a b,ty,pos,af,none⟩::rest) S fs K=
  ((Zhy (S.ev c) (S.ev a) (S.ev b)).1/\Zad P own all rest (S.app dst (Zhy (S.ev c) (S.ev a) (S.ev b)).2) ((Zhy (S.ev c) (S.ev a) (S.ev b)).2.foot::fs) K):=Eq.trans rfl rfl
@[go_sem] theorem ZGn {T:TypeId}:Zad P own all (⟨dst, .alloc T,ty,pos,af,none⟩::rest) S fs K=
  ((ZgH (tyi P T) S.objs dst).1/\Zad P own all rest (S.app dst (ZgH (tyi P T) S.objs dst).2) ((ZgH (tyi P T) S.objs dst).2.foot::fs) K):=Eq.trans rfl rfl
@[go_sem] theorem ZGq {T:TypeId}{x:Operand}:Zad P own all (⟨dst, .box T x,ty,pos,af,none⟩::rest) S fs K=
  ((ZgI S.objs dst (S.ev x).cells?).1/\Zad P own all rest (S.app dst (ZgI S.objs dst (S.ev x).cells?).2) ((ZgI S.objs dst (S.ev x).cells?).2.foot::fs) K):=Eq.trans rfl rfl
@[go_sem] theorem run_build {T:TypeId}{ps:Array (Nat×Operand)}:Zad P own all (⟨dst, .build T ps,ty,pos,af,none⟩::rest) S fs K=
  ((Zhp (tyi P T) (ps.toList.map λ p=>(p.1,S.ev p.2))).1/\Zad P own all rest (S.app dst (Zhp (tyi P T) (ps.toList.map λ p=>(p.1,S.ev p.2))).2) ((Zhp (tyi P T) (ps.toList.map λ p=>(p.1,S.ev p.2))).2.foot::fs) K):=Eq.trans rfl rfl
@[go_sem] theorem ZGr {T:TypeId}{n:Nat}{t:Nat}{ps:Array (Nat×Operand)}:Zad P own all (⟨some t, .buildSlice T n ps,ty,pos,af,none⟩::rest) S fs K=
  if Zj0 (ps.toList.map λ p=>(p.1,S.ev p.2))=true then
   ((ZeH S.objs (some t) (tyi P T) (tyi P (tyi P T).elem) n (ps.toList.map λ p=>(p.1,S.ev p.2))).1/\
   Zad P own all rest (S.app (some t) (ZeH S.objs (some t) (tyi P T) (tyi P (tyi P T).elem) n (ps.toList.map λ p=>(p.1,S.ev p.2))).2) ((ZeH S.objs (some t) (tyi P T) (tyi P (tyi P T).elem) n (ps.toList.map λ p=>(p.1,S.ev p.2))).2.foot::fs) K)
  else((Zgc S.objs (some t) (own t) (tyi P T) (tyi P (tyi P T).elem) n (ps.toList.map λ p=>(p.1,S.ev p.2))).1/\
   Zad P own all rest (S.app (some t) (Zgc S.objs (some t) (own t) (tyi P T) (tyi P (tyi P T).elem) n (ps.toList.map λ p=>(p.1,S.ev p.2))).2) ((Zgc S.objs (some t) (own t) (tyi P T) (tyi P (tyi P T).elem) n (ps.toList.map λ p=>(p.1,S.ev p.2))).2.foot::fs) K):=by
 have h:Zad P own all (⟨some t, .buildSlice T n ps,ty,pos,af,none⟩::rest) S fs K=((λ e:CE=>e.1/\Zad P own all rest (S.app (some t) e.2) (e.2.foot::fs) K)
   (if Zj0 (ps.toList.map λ p=>(p.1,S.ev p.2))=true then ZeH S.objs (some t) (tyi P T) (tyi P (tyi P T).elem) n (ps.toList.map λ p=>(p.1,S.ev p.2))
    else Zgc S.objs (some t) (own t) (tyi P T) (tyi P (tyi P T).elem) n (ps.toList.map λ p=>(p.1,S.ev p.2)))):=Eq.trans rfl rfl
 rw[h];split<;>rfl
@[go_sem] theorem ZGB {T:TypeId}{a:Operand}:Zad P own all (⟨dst, .load T a,ty,pos,af,none⟩::rest) S fs K=
  ((Zdc (tyi P T) S.objs (S.ev a)).1/\Zad P own all rest (S.app dst (Zdc (tyi P T) S.objs (S.ev a)).2) ((Zdc (tyi P T) S.objs (S.ev a)).2.foot::fs) K):=Eq.trans rfl rfl
@[go_sem] theorem ZGO {T:TypeId}{a x:Operand}:Zad P own all (⟨dst, .store T a x,ty,pos,af,none⟩::rest) S fs K=
  ((ZeO (tyi P T) S.objs (S.ev a) (S.ev x).cells?).1/\Zad P own all rest (S.app dst (ZeO (tyi P T) S.objs (S.ev a) (S.ev x).cells?).2) ((ZeO (tyi P T) S.objs (S.ev a) (S.ev x).cells?).2.foot::fs) K):=Eq.trans rfl rfl
@[go_sem] theorem ZGw {T:TypeId}{x:Operand}{f:Nat}:Zad P own all (⟨dst, .fieldAddr T x f,ty,pos,af,none⟩::rest) S fs K=
  ((Zhr P (tyi P T) f (S.ev x)).1/\Zad P own all rest (S.app dst (Zhr P (tyi P T) f (S.ev x)).2) ((Zhr P (tyi P T) f (S.ev x)).2.foot::fs) K):=Eq.trans rfl rfl
@[go_sem] theorem ZGz {T:TypeId}{x:Nat}{i:Operand}:Zad P own all (⟨dst, .indexAddr T (.tmp x) i,ty,pos,af,none⟩::rest) S fs K=
  ((Zhu (tyi P T) (P.cellsOf (tyi P T).elem) (S.ev (.tmp x)) (S.ev i)).1/\Zad P own all rest (S.app dst (Zhu (tyi P T) (P.cellsOf (tyi P T).elem) (S.ev (.tmp x)) (S.ev i)).2) ((Zhu (tyi P T) (P.cellsOf (tyi P T).elem) (S.ev (.tmp x)) (S.ev i)).2.foot::fs) K):=Eq.trans rfl rfl
@[go_sem] theorem ZGA {T:TypeId}{g:Nat}{i:Operand}:Zad P own all (⟨dst, .indexAddr T (.global g) i,ty,pos,af,none⟩::rest) S fs K=
  ((Zhs (tabs P) g (tyi P T) (P.cellsOf (tyi P T).elem) (S.ev i)).1/\Zad P own all rest (S.app dst (Zhs (tabs P) g (tyi P T) (P.cellsOf (tyi P T).elem) (S.ev i)).2) ((Zhs (tabs P) g (tyi P T) (P.cellsOf (tyi P T).elem) (S.ev i)).2.foot::fs) K):=Eq.trans rfl rfl
@[go_sem] theorem ZGE {T:TypeId}{x:Operand}:Zad P own all (⟨dst, .makeInterface T x,ty,pos,af,none⟩::rest) S fs K=
  ((Zht (tyi P T) T (S.ev x)).1/\Zad P own all rest (S.app dst (Zht (tyi P T) T (S.ev x)).2) ((Zht (tyi P T) T (S.ev x)).2.foot::fs) K):=Eq.trans rfl rfl
@[go_sem] theorem ZGP {T U:TypeId}{x:Operand}:Zad P own all (⟨dst, .typeAssert x U T false,ty,pos,af,none⟩::rest) S fs K=
  ((Zhm (tyi P T) T (S.ev x)).1/\Zad P own all rest (S.app dst (Zhm (tyi P T) T (S.ev x)).2) ((Zhm (tyi P T) T (S.ev x)).2.foot::fs) K):=Eq.trans rfl rfl
@[go_sem] theorem ZGp {op:BinOp}{T T':TypeId}{x y:Operand}:Zad P own all (⟨dst, .binOp op T x y T',ty,pos,af,none⟩::rest) S fs K=
  ((Zho op (tyi P T) (S.ev x) (S.ev y)).1/\Zad P own all rest (S.app dst (Zho op (tyi P T) (S.ev x) (S.ev y)).2) ((Zho op (tyi P T) (S.ev x) (S.ev y)).2.foot::fs) K):=Eq.trans rfl rfl
@[go_sem] theorem ZGQ {op:UnOp}{T:TypeId}{x:Operand}:Zad P own all (⟨dst, .unOp op T x,ty,pos,af,none⟩::rest) S fs K=
  ((ZhA op (S.ev x)).1/\Zad P own all rest (S.app dst (ZhA op (S.ev x)).2) ((ZhA op (S.ev x)).2.foot::fs) K):=Eq.trans rfl rfl
@[go_sem] theorem ZGt {T U:TypeId}{x:Operand}:Zad P own all (⟨dst, .convert T U x,ty,pos,af,none⟩::rest) S fs K=
  ((Zhq (P.underlying T) (P.underlying U) (tyi P U) (tyi P (tyi P U).elem) (S.ev x)).1/\Zad P own all rest (S.app dst (Zhq (P.underlying T) (P.underlying U) (tyi P U) (tyi P (tyi P U).elem) (S.ev x)).2) ((Zhq (P.underlying T) (P.underlying U) (tyi P U) (tyi P (tyi P U).elem) (S.ev x)).2.foot::fs) K):=Eq.trans rfl rfl
@[go_sem] theorem ZGy {T:TypeId}{x i:Operand}:Zad P own all (⟨dst, .index T x i,ty,pos,af,none⟩::rest) S fs K=
  ((Zhn (tyi P T) (S.ev x) (S.ev i)).1/\Zad P own all rest (S.app dst (Zhn (tyi P T) (S.ev x) (S.ev i)).2) ((Zhn (tyi P T) (S.ev x) (S.ev i)).2.foot::fs) K):=Eq.trans rfl rfl
@[go_sem] theorem ZGN {T:TypeId}{x:Operand}{lo hi mx:Option Operand}:Zad P own all (⟨dst, .slice T x lo hi mx,ty,pos,af,none⟩::rest) S fs K=
  ((Zhz (tyi P T) (P.cellsOf (tyi P T).elem) (S.ev x) (lo.map S.ev) (hi.map S.ev) (mx.map S.ev)).1/\Zad P own all rest (S.app dst (Zhz (tyi P T) (P.cellsOf (tyi P T).elem) (S.ev x) (lo.map S.ev) (hi.map S.ev) (mx.map S.ev)).2) ((Zhz (tyi P T) (P.cellsOf (tyi P T).elem) (S.ev x) (lo.map S.ev) (hi.map S.ev) (mx.map S.ev)).2.foot::fs) K):=Eq.trans rfl rfl
@[go_sem] theorem ZGG {T:TypeId}{l c:Operand}:Zad P own all (⟨dst, .makeSlice T l c,ty,pos,af,none⟩::rest) S fs K=
  ((ZgJ (tyi P T) (tyi P (tyi P T).elem) S.objs dst (S.ev l) (S.ev c)).1/\Zad P own all rest (S.app dst (ZgJ (tyi P T) (tyi P (tyi P T).elem) S.objs dst (S.ev l) (S.ev c)).2) ((ZgJ (tyi P T) (tyi P (tyi P T).elem) S.objs dst (S.ev l) (S.ev c)).2.foot::fs) K):=Eq.trans rfl rfl
@[go_sem] theorem ZGD {fn:Fn}{fi ca:Array Operand}:Zad P own all (⟨dst, .makeFunc fn fi ca,ty,pos,af,none⟩::rest) S fs K=
  ((Zhw fn (fi.toList.map S.ev) (ca.toList.map S.ev)).1/\Zad P own all rest (S.app dst (Zhw fn (fi.toList.map S.ev) (ca.toList.map S.ev)).2) ((Zhw fn (fi.toList.map S.ev) (ca.toList.map S.ev)).2.foot::fs) K):=Eq.trans rfl rfl
@[go_sem] theorem ZGK {x:Operand}:Zad P own all (⟨dst, .nilCheck x,ty,pos,af,none⟩::rest) S fs K=
  ((Zhx (S.ev x)).1/\Zad P own all rest (S.app dst (Zhx (S.ev x)).2) ((Zhx (S.ev x)).2.foot::fs) K):=Eq.trans rfl rfl
@[go_sem] theorem ZGF {T:TypeId}:Zad P own all (⟨dst, .makeMap T none,ty,pos,af,none⟩::rest) S fs K=
  ((ZeL (tyi P T) S.objs dst).1/\Zad P own all rest (S.app dst (ZeL (tyi P T) S.objs dst).2) ((ZeL (tyi P T) S.objs dst).2.foot::fs) K):=Eq.trans rfl rfl
@[go_sem] theorem ZGH {T:TypeId}{m k v:Operand}:Zad P own all (⟨dst, .mapUpdate T m k v,ty,pos,af,none⟩::rest) S fs K=
  ((ZeM (tyi P T) S.objs (S.ev m) (S.ev k) (S.ev v)).1/\Zad P own all rest (S.app dst (ZeM (tyi P T) S.objs (S.ev m) (S.ev k) (S.ev v)).2) ((ZeM (tyi P T) S.objs (S.ev m) (S.ev k) (S.ev v)).2.foot::fs) K):=Eq.trans rfl rfl
@[go_sem] theorem ZGC {T:TypeId}{m k:Operand}:Zad P own all (⟨dst, .lookup T m k false,ty,pos,af,none⟩::rest) S fs K=
  ((ZeK (tyi P T) S.objs (S.ev m) (S.ev k)).1/\Zad P own all rest (S.app dst (ZeK (tyi P T) S.objs (S.ev m) (S.ev k)).2) ((ZeK (tyi P T) S.objs (S.ev m) (S.ev k)).2.foot::fs) K):=Eq.trans rfl rfl
@[go_sem] theorem ZGM {T:TypeId}{x:Operand}:Zad P own all (⟨dst, .range T x,ty,pos,af,none⟩::rest) S fs K=
  ((ZeN (tyi P T) S.objs dst (S.ev x)).1/\Zad P own all rest (S.app dst (ZeN (tyi P T) S.objs dst (S.ev x)).2) ((ZeN (tyi P T) S.objs dst (S.ev x)).2.foot::fs) K):=Eq.trans rfl rfl
@[go_sem] theorem ZGu {x:Operand}:Zad P own all (⟨dst, .entry x,ty,pos,af,none⟩::rest) S fs K=
  ((ZeJ S.objs (S.ev x)).1/\Zad P own all rest (S.app dst (ZeJ S.objs (S.ev x)).2) ((ZeJ S.objs (S.ev x)).2.foot::fs) K):=Eq.trans rfl rfl
@[go_sem] theorem ZGv {x:Operand}{i:Nat}:Zad P own all (⟨dst, .extract x i,ty,pos,af,none⟩::rest) S fs K=
  ((Zgd (S.ev x) i).1/\Zad P own all rest (S.app dst (Zgd (S.ev x) i).2) ((Zgd (S.ev x) i).2.foot::fs) K):=Eq.trans rfl rfl
@[go_sem] theorem ZGs {b:Builtin}{as:Array Operand}{tys:Array TypeId}:Zad P own all (⟨dst, .call ⟨.builtin b,as,tys⟩,ty,pos,af,none⟩::rest) S fs K=
  ((ZeI P S.objs dst b tys.toList (as.toList.map S.ev)).1/\Zad P own all rest (S.app dst (ZeI P S.objs dst b tys.toList (as.toList.map S.ev)).2) ((ZeI P S.objs dst b tys.toList (as.toList.map S.ev)).2.foot::fs) K):=Eq.trans rfl rfl
theorem Zum {f:Operand}{as:Array Operand}{tys:Array TypeId}(r:D)(h:Zjy P S.objs (S.ev f) (as.toList.map S.ev) r)
  (hk:Zad P own all rest (S.put dst (.d r)) (((as.toList.map S.ev).flatMap (PV.refs S.objs 4),[])::fs) K):
  Zad P own all (⟨dst, .call ⟨.value f,as,tys⟩,ty,pos,af,none⟩::rest) S fs K:= .inl ⟨r,h,hk⟩
theorem Zun {f:Operand}{as:Array Operand}{tys:Array TypeId}(e:Eff)(h:CallCondM P S.objs (S.ev f) (as.toList.map S.ev) e)(hk:Zad P own all rest (S.app dst e) (e.foot::fs) K):
  Zad P own all (⟨dst, .call ⟨.value f,as,tys⟩,ty,pos,af,none⟩::rest) S fs K:= .inr ⟨e,h,hk⟩
def wpG (P:Program)(own:Nat->Bool)(all:List Oper)(_t:Option Nat)(g:Option (Option Bool))(want:Bool)(o:Oper)(rest:List Oper)(S:St)(fs:List Zbp)(K:St->List Zbp->Prop):Prop:=match g with
 |some g=>if g=some want then Zad P own all (o::rest) S fs K else Zad P own all rest (S.put o.dst .und) (([],[])::fs) K
 |none=>False
variable {t:Option Nat}{o:Oper}{w:Bool}
@[go_sem] theorem ZIE :wpG P own all t (some (some true)) true o rest S fs K=Zad P own all (o::rest) S fs K:=Eq.trans rfl rfl
@[go_sem] theorem ZIA :wpG P own all t (some (some false)) false o rest S fs K=Zad P own all (o::rest) S fs K:=Eq.trans rfl rfl
@[go_sem] theorem ZID :wpG P own all t (some (some true)) false o rest S fs K=Zad P own all rest (S.put o.dst .und) (([],[])::fs) K:=Eq.trans rfl rfl
@[go_sem] theorem ZIB :wpG P own all t (some (some false)) true o rest S fs K=Zad P own all rest (S.put o.dst .und) (([],[])::fs) K:=Eq.trans rfl rfl
@[go_sem] theorem ZIC :wpG P own all t (some none) w o rest S fs K=Zad P own all rest (S.put o.dst .und) (([],[])::fs) K:=Eq.trans rfl rfl
@[go_sem] theorem ZGx {op:Op}{j:Nat}{want:Bool}:Zad P own all (⟨dst,op,ty,pos,af,some (j,want)⟩::rest) S fs K=
  wpG P own all ((all[j]?).bind (·.dst)) (grd all S j) want ⟨dst,op,ty,pos,af,none⟩ rest S fs K:=Eq.trans rfl rfl
theorem ZbY {T:Option Nat}{u:Nat}{want b:Bool}(hT:T=some u)(he:S.env u= .d (.sc (.bool b)))
  (h1:b=true->wpG P own all none (some (some true)) want o rest ⟨upd u (.d (.sc (.bool true))) S.env,S.objs⟩ fs K)
  (h2:b=false->wpG P own all none (some (some false)) want o rest ⟨upd u (.d (.sc (.bool false))) S.env,S.objs⟩ fs K):
  wpG P own all T (some (some b)) want o rest S fs K:=by
 have e:∀c,b=c->(⟨upd u (.d (.sc (.bool c))) S.env,S.objs⟩:St)=S:=by
  rintro c rfl;have:upd u (.d (.sc (.bool b))) S.env=S.env:=by
   funext i
   by_cases hi:i=u
   ·subst hi;rw[upd,if_pos rfl,he]
   ·rw[upd,if_neg hi]
  rw[this]
 cases b
 ·have:=h2 rfl;rw[e false rfl]at this;exact this
 ·have:=h1 rfl;rw[e true rfl]at this;exact this
@[go_sem] theorem ZGh {env:Nat->PV}{objs:Nat->Ob}{t:Nat}{x:PV}:(St.mk env objs).put (some t) x=⟨upd t x env,objs⟩:=rfl
@[go_sem] theorem ZGi {S:St}{x:PV}:S.put none x=S:=rfl
@[go_sem] theorem ZGb {env:Nat->PV}{objs:Nat->Ob}{t:Nat}:(St.mk env objs).ev (.tmp t)=env t:=rfl
@[go_sem] theorem ZF7 {env:Nat->PV}{objs:Nat->Ob}{f:Nat}:(St.mk env objs).ev (.func f)= .d (.fn f []):=rfl
@[go_sem] theorem ZF8 {env:Nat->PV}{objs:Nat->Ob}{k:IntKind}{n:Int}:(St.mk env objs).ev (.const (.int k n))= .d (.sc (.int k n)):=rfl
@[go_sem] theorem ZF6 {env:Nat->PV}{objs:Nat->Ob}{b:Bool}:(St.mk env objs).ev (.const (.bool b))= .d (.sc (.bool b)):=rfl
@[go_sem] theorem ZGa {env:Nat->PV}{objs:Nat->Ob}{s:ByteArray}:(St.mk env objs).ev (.const (.string s))= .d (.sc (.string s)):=rfl
@[go_sem] theorem ZF9 {env:Nat->PV}{objs:Nat->Ob}:(St.mk env objs).ev (.const (.slice none 0 0))= .nilS:=rfl
@[go_sem] theorem ZF5 {env:Nat->PV}{objs:Nat->Ob}{cs:Array Value}:(St.mk env objs).ev (.const (.agg cs))= .ag (cs.toList.map ZfR):=rfl
@[go_sem] theorem ZFU {env:Nat->PV}{objs:Nat->Ob}{t:Nat}{x:PV}{wr:List (Nat×Ob)}{rd:List Nat}:(St.mk env objs).app (some t) ⟨x,wr,rd⟩=⟨upd t x env,wrs wr objs⟩:=rfl
@[go_sem] theorem ZFV {env:Nat->PV}{objs:Nat->Ob}{x:PV}{wr:List (Nat×Ob)}{rd:List Nat}:(St.mk env objs).app none ⟨x,wr,rd⟩=⟨env,wrs wr objs⟩:=rfl
@[go_sem] theorem ZIG {objs:Nat->Ob}:wrs [] objs=objs:=rfl
@[go_sem] theorem ZIF {objs:Nat->Ob}{o:Nat}{ob:Ob}{r:List (Nat×Ob)}:wrs ((o,ob)::r) objs=upd o ob (wrs r objs):=rfl
@[go_sem] theorem ZGc {x:PV}{wr:List (Nat×Ob)}{rd:List Nat}:Eff.foot ⟨x,wr,rd⟩=(rd,wr.map (·.1)):=rfl
@[go_sem] theorem ZIz {α:Type}{i:Nat}{x:α}{f:Nat->α}:upd i x f i=x:=if_pos rfl
@[go_sem] theorem ZIy {α:Type}{i j:Nat}{x:α}{f:Nat->α}:upd i x f j=if j=i then x else f j:=rfl
@[go_sem] theorem ZF0 {v:Value}:(PV.d (.sc v)).cells?=some [.d (.sc v)]:=rfl
@[go_sem] theorem ZFX {cs:List D}:(PV.d (.ag cs)).cells?=some (cs.map .d):=rfl
@[go_sem] theorem ZF1 {l:List D}:(PV.d (.sl l)).cells?=some [.d (.sl l)]:=rfl
@[go_sem] theorem ZFZ {l:List D}:(PV.d (.pt l)).cells?=some [.d (.pt l)]:=rfl
@[go_sem] theorem ZFY {f:FuncId}{l:List D}:(PV.d (.fn f l)).cells?=some [.d (.fn f l)]:=rfl
@[go_sem] theorem ZFW {cs:List PV}:(PV.ag cs).cells?=some cs:=rfl
@[go_sem] theorem ZF4 {o sz off len cap:Nat}:(PV.ref o sz off len cap).cells?=some [.ref o sz off len cap]:=rfl
@[go_sem] theorem ZF3 {o sz i c:Nat}:(PV.ptr o sz i c).cells?=some [.ptr o sz i c]:=rfl
@[go_sem] theorem ZF2 :PV.nilS.cells?=some [.nilS]:=rfl
attribute [go_sem] D.cells PV.agg? PV.asD ZfR ldD ldP Zfy mkD ZkB ZiU ZeZ Ze0 ZiG Zhn Zhq ZfU ZdC Zca Zog ZgI ZgH Zdc ZeO Zhr Zhu Zho ZhA Zhy Zgd Zhz ZgJ Zie Zhx Zht Zhm Zjk Zhs Zhw ZeH ZnP Zj0 Zkl Zd3 ZhU Zgb Zhv ZeL ZeM ZeK ZeN ZeJ Ze1 ZkD Zo9 Zhp Zgc ZeI ZbS ZcB Zgr D.notTup D.ofCells cellD grd toD PV.refs
attribute [go_sem] ZyT Zgt PV.frz PV.frzL Ob.frz PV.ren PV.renL Ob.ren ZcA ZgW true_or or_true jY
attribute [go_sem] Bi yX List.take_nil Ac qR List.drop_nil uT yH yB uY uC yT gU jH Bb gK List.mapM_nil jU List.all_cons List.all_nil List.head?_cons
 qB Br yN Option.bind_some Option.bind_none Option.pure_def Option.bind_eq_bind yI uM uI Bt kB jZ Ak zE Cn
 if_true jA Dj and_true Ct qD ne_eq not_false_eq_true not_true_eq_false Ce Aw kH Bool.and_true Af Ag Ax zT List.mem_nil_iff yF gL false_implies implies_true forall_const Cf or_true false_or
@[go_sem low] theorem ZGS {α:Type}{cs:List α}{off:Nat}{xs:List α}:ZbX cs off xs=cs.take off++xs++cs.drop (off+xs.length):=rfl
def ZiB (objs:Nat->Ob)(dst:Option Nat)(st xt ety:TyI)(s x:PV)(xs:Option (List D)):CE:=
 match xs,dst with
 |some xs,some t=>
  match s with
  | .ref o sz off len _=>match objs o with
   | .row sz' l=>(st.kind=1/\xt.kind=1/\ety.zok=true/\ety.bytes<=128/\(∀d,d∈xs->d.cells.length=ety.size)/\objs t= .dead/\sz=ety.size/\sz=sz'/\off=0/\len<=l.length/\roomy (len+xs.length),
     {val:= .ref t sz 0 (len+xs.length) (len+xs.length),wr:=[(t, .row sz' (l.take len++xs)),(o, .gone)],rd:=ZcB x})
   |_=> .no
  | .nilS=>(st.kind=1/\xt.kind=1/\ety.zok=true/\ety.bytes<=128/\(∀d,d∈xs->d.cells.length=ety.size)/\objs t= .dead/\roomy xs.length,
     {val:= .ref t ety.size 0 xs.length xs.length,wr:=[(t, .row ety.size xs)],rd:=ZcB x})
  | .z0=>(st.kind=1/\xt.kind=1/\ety.zok=true/\ety.bytes<=128/\(∀d,d∈xs->d.cells.length=ety.size)/\objs t= .dead/\roomy xs.length,
     {val:= .ref t ety.size 0 xs.length xs.length,wr:=[(t, .row ety.size xs)],rd:=ZcB x})
  |_=> .no
 |_,_=> .no
def ZmN (objs:Nat->Ob)(t:Nat)(st xt ety:TyI)(o sz off len:Nat)(xs:List D)(x:PV):Ob->CE
 | .row sz' l=>(st.kind=1/\xt.kind=1/\ety.zok=true/\ety.bytes<=128/\(∀d,d∈xs->d.cells.length=ety.size)/\objs t= .dead/\sz=ety.size/\sz=sz'/\off=0/\len<=l.length/\roomy (len+xs.length),
     {val:= .ref t sz 0 (len+xs.length) (len+xs.length),wr:=[(t, .row sz' (l.take len++xs)),(o, .gone)],rd:=ZcB x})
 |_=> .no
@[go_sem] theorem ZGR {objs:Nat->Ob}{dst:Option Nat}{st xt ety:TyI}{s x:PV}:ZdY objs dst st xt ety s x=ZiB objs dst st xt ety s x (ZbS objs x):=by
 unfold ZdY ZiB;rfl
@[go_sem] theorem ZFR {objs:Nat->Ob}{t:Nat}{st xt ety:TyI}{o sz off len cap:Nat}{x:PV}{xs:List D}:ZiB objs (some t) st xt ety (.ref o sz off len cap) x (some xs)=ZmN objs t st xt ety o sz off len xs x (objs o):=by
 simp only[ZiB,ZmN]
@[go_sem] theorem ZFT {objs:Nat->Ob}{t:Nat}{st xt ety:TyI}{o sz sz' off len:Nat}{x:PV}{xs l:List D}:ZmN objs t st xt ety o sz off len xs x (.row sz' l)=
  (st.kind=1/\xt.kind=1/\ety.zok=true/\ety.bytes<=128/\(∀d,d∈xs->d.cells.length=ety.size)/\objs t= .dead/\sz=ety.size/\sz=sz'/\off=0/\len<=l.length/\roomy (len+xs.length),
     {val:= .ref t sz 0 (len+xs.length) (len+xs.length),wr:=[(t, .row sz' (l.take len++xs)),(o, .gone)],rd:=ZcB x}):=rfl
@[go_sem] theorem ZFQ {objs:Nat->Ob}{t:Nat}{st xt ety:TyI}{x:PV}{xs:List D}:ZiB objs (some t) st xt ety .nilS x (some xs)=
  (st.kind=1/\xt.kind=1/\ety.zok=true/\ety.bytes<=128/\(∀d,d∈xs->d.cells.length=ety.size)/\objs t= .dead/\roomy xs.length,
     {val:= .ref t ety.size 0 xs.length xs.length,wr:=[(t, .row ety.size xs)],rd:=ZcB x}):=rfl
@[go_sem] theorem ZFS {objs:Nat->Ob}{t:Nat}{st xt ety:TyI}{x:PV}{xs:List D}:ZiB objs (some t) st xt ety .z0 x (some xs)=
  (st.kind=1/\xt.kind=1/\ety.zok=true/\ety.bytes<=128/\(∀d,d∈xs->d.cells.length=ety.size)/\objs t= .dead/\roomy xs.length,
     {val:= .ref t ety.size 0 xs.length xs.length,wr:=[(t, .row ety.size xs)],rd:=ZcB x}):=rfl
end rules
end Go.PS
