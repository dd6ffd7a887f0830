/- Contracts of small functions on ranking problems. -/
import Derived.Test.YtjjbhjnpeenbkaaGreatDoorTypes
set_option linter.unusedSimpArgs false
set_option linter.unusedVariables false
set_option maxHeartbeats 16000000
namespace Go.Proofs.YtjjbhjnpeenbkaaGreatDoor.Sx
open Go Go.PS Go.Proofs
set_option maxRecDepth 100000
attribute [local irreducible] ao wpG ah
abbrev Bd :=Int×Int×Int×Int
abbrev bdD (b:Bd):D:= .ag [.int b.1, .int b.2.1, .int b.2.2.1, .int b.2.2.2]
abbrev cX (l:List Bd):D:= .sl (l.map bdD)
abbrev aj (l:List Int):D:= .sl (l.map D.int)
abbrev Net :=Int×List Bd
abbrev nD (n:Net):D:= .ag [.int n.1,cX n.2]
theorem lS (a b:Int):(if b<a then b else a)=min a b:=xA
theorem lR (a b:Int):(if a<b then b else a)=max a b:=xA
def bdIn (n:Int)(b:Bd):Bool:=decide (0<=b.1/\b.1<n/\0<=b.2.1/\b.2.1<n/\b.1≠b.2.1/\-16777216<=b.2.2.1/\b.2.2.1<=16777216/\0<=b.2.2.2/\b.2.2.2<=8000)
def nOk (n:Net):Bool:=decide (0<=n.1/\n.1<=2048/\n.2.length<=4096)&& !n.2.any (λ b=> !bdIn n.1 b)
theorem pR {n:Net}(h:nOk n=true):0<=n.1/\n.1<=2048/\n.2.length<=4096/\∀(k:Nat) b,n.2[k]? =some b->
  0<=b.1/\b.1<n.1/\0<=b.2.1/\b.2.1<n.1/\b.1≠b.2.1/\-16777216<=b.2.2.1/\b.2.2.1<=16777216/\0<=b.2.2.2/\b.2.2.2<=8000:=by
 simp only[nOk,uN,uG,yL,qH]at h;obtain⟨⟨Z,Y,X⟩,V⟩:=h;refine⟨Z,Y,X,λ k b U=>?_⟩;have:=V b (uA U);simpa[bdIn]using this
theorem mU (g:Net):ah Tryz.prog 159 [nD g] (.bool (nOk g)):=by
 obtain⟨n,l⟩:=g;refine kE Tryz.func159 ?_;intro Y B X N;have R:=cO 0 1 Y rfl rfl;rw[uC]at R;refine kw kO aa aa ?_
 repeat' first|exact True.intro|refine Bn.mk ?_ ?_|intro T
 all_goals try (refine ay ?_;simp[nOk];omega)
 refine aq (λ(k:Nat)=>k<=l.length/\∀(j:Nat) y,j<k->l[j]? =some y->(!bdIn n y)=false) (λ k=>[(1, .ptr 1 0 0 0),(20, .d (cX l)),(21, .int l.length),(22, .int k)]) (λ k=>[(1, .cells [.int n, .d (cX l)])]) (λ k=>l.length-k) 0 ?_ ?_ ?_
 ·exact⟨uF _,λ j y h=>xA⟩
 ·exact kN aa []
 ·rintro k ⟨O,Z⟩;rcases uD k l.length with V|S
  ·obtain⟨p,U⟩:=ak V;refine kw kO (av U @lS @lR) aa ?_
   repeat' first|exact True.intro|refine Bn.mk ?_ ?_|intro T
   all_goals try
    refine ay ?_;rw[nOk,dk U (by rw[bdIn,yL,qJ];omega)];simp
   ·refine⟨k+1,?_,eL [] _ _ (by refine⟨?_,?_⟩<;>(repeat' first|exact fmn|refine fmc ⟨(by first|rfl|(simp(disch:=omega) only[go_sem,simprocAttr,inL];first|done|omega|(congr 1;done))),?_⟩);done),?_⟩
    ·exact⟨xA,b9 Z U (by rw[bdIn,Aw,uG];omega)⟩
    ·omega
  ·refine ac kO aa aa ?_;refine ay ?_;rw[nOk,d6 (λ j y Q=>Z j y xA)];simp;omega
theorem p6 (g:Net):ah Tryz.prog 133 [nD g] (.bool (nOk g)):=by
 obtain⟨n,l⟩:=g;refine kE Tryz.func133 ?_;intro Y B X N;have R:=cO 0 1 Y rfl rfl;rw[uC]at R;refine kw kO aa aa ?_
 repeat' first|exact True.intro|refine Bn.mk ?_ ?_|intro T
 all_goals try (refine ay ?_;simp[nOk];omega)
 refine aq (λ(k:Nat)=>k<=l.length/\∀(j:Nat) y,j<k->l[j]? =some y->(!bdIn n y)=false) (λ k=>[(1, .ptr 1 0 0 0),(3, .int k)]) (λ k=>[(1, .cells [.int n, .d (cX l)])]) (λ k=>l.length-k) 0 ?_ ?_ ?_
 ·exact⟨uF _,λ j y h=>xA⟩
 ·exact kN aa []
 ·rintro k ⟨O,Z⟩;rcases uD k l.length with V|S
  ·obtain⟨p,U⟩:=ak V;refine kw kO (ae U) aa ?_
   repeat' first|exact True.intro|refine Bn.mk ?_ ?_|intro T
   all_goals try
    refine ay ?_;rw[nOk,dk U (by rw[bdIn,yL,qJ];omega)];simp
   ·refine⟨k+1,?_,eL [] _ _ (by refine⟨?_,?_⟩<;>(repeat' first|exact fmn|refine fmc ⟨(by first|rfl|(simp(disch:=omega) only[go_sem,simprocAttr,inL];first|done|omega|(congr 1;done))),?_⟩);done),?_⟩
    ·exact⟨xA,b9 Z U (by rw[bdIn,Aw,uG];omega)⟩
    ·omega
  ·refine ac kO aa aa ?_;refine ay ?_;rw[nOk,d6 (λ j y Q=>Z j y xA)];simp;omega
def oS (x:Int):Bool:=decide (-34359738368<=x/\x<=34359738368)
def rkOk (g:Net)(r:List Int):Bool:=nOk g&&decide ((r.length:Int)=g.1)&& !r.any (λ x=> !oS x)
def at0 (r:List Int)(v:Int):Int:=(r[v.toNat]?).getD 0
theorem fP {r:List Int}{v:Int}(Z:0<=v)(Y:v<r.length):r[v.toNat]? =some (at0 r v):=by
 obtain⟨x,h⟩:=ak (show v.toNat<r.length by omega);rw[at0,h];rfl
theorem rkOk_in {g:Net}{r:List Int}(h:rkOk g r=true):nOk g=true/\(r.length:Int)=g.1/\∀v:Int,0<=v->v<g.1->r[v.toNat]? =some (at0 r v)/\-34359738368<=at0 r v/\at0 r v<=34359738368:=by
 simp only[rkOk,uN,uG,yL,qH]at h;obtain⟨⟨Y,X⟩,V⟩:=h;refine⟨Y,X,λ v Z U=>?_⟩;have:=fP Z (show v<r.length by omega);refine⟨this,?_⟩;have:=V _ (uA this);simpa[oS]using this
theorem AO (g:Net)(r:List Int):ah Tryz.prog 85 [nD g,aj r] (.bool (rkOk g r)):=by
 rcases Y:nOk g with _|_
 ·have S:ah Tryz.prog 133 [nD g] (.bool false):=Y▸p6 g;refine kE Tryz.func85 ?_;intro V B X N;refine ac kO aa (ae S) ?_
  all_goals (refine ay ?_;simp[rkOk,Y])
 ·have S:ah Tryz.prog 133 [nD g] (.bool true):=Y▸p6 g;obtain⟨M,L,K,J⟩:=pR Y;refine kE Tryz.func85 ?_;intro V B X N;have O:=bI 1 V rfl;rw[uC]at O;refine kw kO aa (ae S) ?_
  repeat' first|exact True.intro|refine Bn.mk ?_ ?_|intro R
  all_goals try (refine ay ?_;simp[rkOk,Y];omega)
  refine aq (λ(k:Nat)=>k<=r.length/\∀(j:Nat) y,j<k->r[j]? =some y->(!oS y)=false) (λ k=>[(1, .d (aj r)),(5, .int k)]) (λ k=>[]) (λ k=>r.length-k) 0 ?_ ?_ ?_
  ·exact⟨uF _,λ j y h=>xA⟩
  ·exact kN aa []
  ·rintro k ⟨H,Z⟩;rcases uD k r.length with U|Q
   ·obtain⟨p,T⟩:=ak U;refine kw kO (ae T) aa ?_
    repeat' first|exact True.intro|refine Bn.mk ?_ ?_|intro R
    all_goals try
     refine ay ?_;rw[rkOk,dk T (by rw[oS,yL,qJ];omega)];simp
    ·refine⟨k+1,?_,eL [] _ _ (by refine⟨?_,?_⟩<;>(repeat' first|exact fmn|refine fmc ⟨(by first|rfl|(simp(disch:=omega) only[go_sem,simprocAttr,inL];first|done|omega|(congr 1;done))),?_⟩);done),?_⟩
     ·exact⟨xA,b9 Z T (by rw[oS,Aw,uG];omega)⟩
     ·omega
   ·refine ac kO aa aa ?_;refine ay ?_;rw[rkOk,d6 (λ j y I=>Z j y xA)];simp[Y];omega
def gap (r:List Int)(b:Bd):Int:=at0 r b.2.1-at0 r b.1
def gl (g:Net)(r:List Int):Bool:=rkOk g r&& !g.2.any (λ b=>decide (gap r b<b.2.2.1))
def aT (f:Nat->Int):Nat->Int
 |0=>0
 |k+1=>aT f k+f k
theorem eT (f:Nat->Int)(k:Nat):aT f (k+1)=aT f k+f k:=rfl
theorem sumI_le {f:Nat->Int}{c:Int}{m:Nat}(h:∀k,k<m->-c<=f k/\f k<=c):∀k,k<=m->-(c*k)<=aT f k/\aT f k<=c*k:=by
 intro k
 induction k with
 |zero=>intro _;simp[aT]
 |succ k Z=>
  intro V;have Y:=Z xA;have X:=h k xA;have:c*((k+1:Nat):Int)=c*k+c:=by rw[Int.natCast_succ,zN,Int.mul_one]
  rw[aT,this];omega
def costAt (r:List Int)(l:List Bd)(k:Nat):Int:=match l[k]? with
 |some b=>b.2.2.2*gap r b
 |none=>0
theorem costAt_some {r:List Int}{l:List Bd}{k:Nat}{b:Bd}(h:l[k]? =some b):costAt r l k=b.2.2.2*(at0 r b.2.1-at0 r b.1):=by simp[costAt,h,gap]
def m7 (g:Net)(r:List Int):Int:=if rkOk g r then aT (costAt r g.2) g.2.length else 0
def eA (l:List Bd)(f:List Int)(v:Int)(j:Nat):Int:=match l[j]?,f[j]? with
 |some b,some x=>(if b.2.1=v then x-b.2.2.2 else 0)-(if b.1=v then x-b.2.2.2 else 0)
 |_,_=>0
end Go.Proofs.YtjjbhjnpeenbkaaGreatDoor.Sx
namespace Go.Proofs.YtjjbhjnpeenbkaaGreatDoor.Sx
open Go Go.PS Go.Proofs
set_option maxRecDepth 100000
attribute [local irreducible] ao wpG ah ax
abbrev pD (n:Nat)(l:List Bd)(f:List Int):D:= .pt [.int n,cX l,aj f]
def fB (n:Nat):List Int:=(List.range n).map λ u:Nat=>(u:Int)
def cb (g:Nat->Int)(n k:Nat):List Int:=(List.range n).map λ u=>if u<k then g u else 0
theorem fV (g:Nat->Int)(n k:Nat):(cb g n k).length=n:=by simp[cb]
theorem k7 {g:Nat->Int}{n k u:Nat}(h:u<n):(cb g n k)[u]? =some (if u<k then g u else 0):=by simp[cb,h]
theorem oy (g:Nat->Int)(n:Nat):(cb g n 0).map D.int=List.replicate n (D.int 0):=by
 rw[Ac];refine⟨by simp[cb],λ b h=>?_⟩;simp only[cb,gU,uR]at h;obtain⟨u,_,rfl⟩:=h;simp
theorem ox {g:Nat->Int}{n k:Nat}(h:k<n):(cb g n k).set k (g k)=cb g n (k+1):=by
 refine yX λ u=>?_
 by_cases Y:u<n
 ·rw[k7 Y,qF,k7 Y,fV];by_cases c:k=u
  ·subst c;rw[if_pos rfl,if_pos h,if_pos xA]
  ·rw[if_neg c];by_cases Z:u<k
   ·rw[if_pos Z,if_pos xA]
   ·rw[if_neg Z,if_neg xA]
 ·rw[uL (by rw[yJ,fV];omega),uL (by rw[fV];omega)]
theorem ov (g:Nat->Int)(n:Nat):cb g n n=(List.range n).map g:=by
 rw[cb];refine yK λ u h=>?_
 rw[if_pos (yD.1 h)]
theorem BO (n:Nat)(l:List Bd)(f:List Int)(S:n<=2048):ax Tryz.prog 161 [.d (pD n l f)] [(2000, .dead)] (.ref 2000 1 0 n n) [(2000, .row 1 ((fB n).map D.int))]:=by
 refine kM Tryz.func161 ?_;intro B X R;refine ac (cE (Nat.beq 10) (b:=true)) aa aa ?_;refine aq (λ(k:Nat)=>k<=n) (λ k=>[(3, .ref 10 1 0 n n),(12, .int n),(13, .int k)]) (λ k=>[(10, .row 1 ((cb (λ u=>(u:Int)) n k).map D.int))]) (λ k=>n-k) 0 ?_ ?_ ?_
 ·exact uF _
 ·exact kN (ae @oy) []
 ·intro k T;have h:=fV (λ u=>(u:Int)) n k;rcases uD k n with Z|U
  ·have V:(cb (λ u=>(u:Int)) n k)[k]? =_:=k7 Z;have Y:=ox (g:=λ u=>(u:Int)) Z;refine ac kO (ai V h) aa ?_;refine⟨k+1,?_,kN (ai @Y.symm @yW.{0,0}) [],?_⟩
   ·omega
   ·omega
  ·refine ac kP aa aa ?_;have:k=n:=xA;subst this;refine kR aa [(2000,10)] [(2, .ref 2000 1 0 _ _)] [(2000, .row 1 _)] ?_;refine aV ?_;exact⟨rfl,uM.2 ⟨yo (by rw[ov];rfl),yB _⟩⟩
def iv (l:List Bd)(v:Int)(j:Nat):Int:=match l[j]? with
 |some b=>(if b.2.1=v then b.2.2.2 else 0)-(if b.1=v then b.2.2.2 else 0)
 |none=>0
def dz (l:List Bd)(n k:Nat):List Int:=(List.range n).map λ v:Nat=>aT (iv l v) k
theorem pT (l:List Bd)(n k:Nat):(dz l n k).length=n:=by simp[dz]
theorem N3 (l:List Bd)(n:Nat):(dz l n 0).map D.int=List.replicate n (D.int 0):=by
 rw[Ac];refine⟨by simp[dz],λ b h=>?_⟩;simp only[dz,gU,uR]at h;obtain⟨u,_,rfl⟩:=h;rfl
theorem rP {l:List Bd}{n k u:Nat}(h:u<n):(dz l n k)[u]? =some (aT (iv l u) k):=by simp[dz,h]
theorem N5 {l:List Bd}{n k i j:Nat}{b:Bd}(X:l[k]? =some b)(V:b.1=i)(S:b.2.1=j)(U:i≠j)(T:i<n)(R:j<n):
  dz l n (k+1)=((dz l n k).set j (aT (iv l j) k+b.2.2.2)).set i (aT (iv l i) k-b.2.2.2):=by
 refine yX λ u=>?_
 by_cases h:u<n
 ·rw[rP h,eT,qF,qF,yJ,pT,rP h];have e:iv l u k=(if b.2.1=(u:Int)then b.2.2.2 else 0)-(if b.1=(u:Int)then b.2.2.2 else 0):=by simp[iv,X]
  rw[e,V,S];by_cases Z:i=u
  ·subst Z;rw[if_neg xA,if_pos rfl,if_pos rfl,if_pos h];congr 1;omega
  ·by_cases Y:j=u
   ·subst Y;rw[if_pos rfl,if_neg xA,if_neg Z,if_pos rfl,if_pos h];congr 1;omega
   ·rw[if_neg xA,if_neg xA,if_neg Z,if_neg Y];congr 1;omega
 ·rw[uL (by rw[pT];omega),uL (by rw[yJ,yJ,pT];omega)]
theorem xo {l:List Bd}{v:Int}{m:Nat}(V:m<=l.length)(Z:∀(k:Nat) b,l[k]? =some b->0<=b.2.2.2/\b.2.2.2<=8000):
  -(8000*(m:Int))<=aT (iv l v) m/\aT (iv l v) m<=8000*(m:Int):=by
 refine sumI_le (m:=m) (λ k X=>?_) m (uI _);obtain⟨b,h⟩:=ak (show k<l.length by omega);have Y:=Z k b h;simp only[iv,h];split<;>split<;>omega
theorem N6 (n:Nat)(l:List Bd)(f:List Int)(I:nOk (n,l)=true):ax Tryz.prog 212 [.d (pD n l f)] [(2000, .dead)] (.ref 2000 1 0 n n) [(2000, .row 1 ((dz l n l.length).map D.int))]:=by
 obtain⟨M,L,K,Z⟩:=pR I;dsimp only at M L K Z;refine kM Tryz.func212 ?_;intro B X C;refine ac (cE (Nat.beq 11) (b:=true)) aa aa ?_;refine aq (λ(k:Nat)=>k<=l.length) (λ k=>[(3, .ref 11 1 0 n n),(16, .d (cX l)),(17, .int l.length),(18, .int k)]) (λ k=>[(11, .row 1 ((dz l n k).map D.int))]) (λ k=>l.length-k) 0 ?_ ?_ ?_
 ·exact uF _
 ·exact kN (ae @N3) []
 ·intro k E;have Y:=pT l n k;rcases uD k l.length with U|H
  ·obtain⟨b,h⟩:=ak U;have J:=Z k b h;obtain⟨i,R⟩:∃i:Nat,b.1=i:=⟨b.1.toNat,xA⟩;obtain⟨j,Q⟩:∃j:Nat,b.2.1=j:=⟨b.2.1.toNat,xA⟩;have S:(dz l n k)[i]? =_:=rP xA;have O:(dz l n k)[j]? =_:=rP xA;have G:=xo (v:=i) (show k<=l.length by omega) (λ k b h=>by have:=Z k b h;omega);have F:=xo (v:=j) (show k<=l.length by omega) (λ k b h=>by have:=Z k b h;omega);have T:=N5 (n:=n) h R Q xA xA xA;have V:j≠i:=xA;have N:((List.map D.int (dz l n k)).set j (D.sc (.int .i64 (aT (iv l j) k+b.2.2.2))))[i]? =some (D.int (aT (iv l i) k)):=by
    rw[jT V,uJ,S];rfl
   refine ac kO (bj h R Q S O N Y @yJ.{0}) aa ?_;refine⟨k+1,?_,kN (ai T @yW.{0,0}) [],?_⟩
   ·omega
   ·omega
  ·refine ac kP aa aa ?_;have:k=l.length:=xA;subst this;refine kR aa [(2000,11)] [(2, .ref 2000 1 0 _ _)] [(2000, .row 1 _)] ?_;refine aV ?_;exact⟨rfl,uM.2 ⟨rfl,yB _⟩⟩
end Go.Proofs.YtjjbhjnpeenbkaaGreatDoor.Sx
namespace Go.Proofs.YtjjbhjnpeenbkaaGreatDoor.Sx
open Go Go.PS Go.Proofs
set_option maxRecDepth 100000
attribute [local irreducible] ao wpG ah
def mirB (b:Bd):Bd:=(b.2.1,b.1,b.2.2.1,b.2.2.2)
def mirF (g:Net):Net:=(g.1,g.2.map mirB)
theorem Jm (g:Net)(Q:g.2.length<=1000000):ah Tryz.prog 258 [nD g] (nD (mirF g)):=by
 obtain⟨n,l⟩:=g;refine kE Tryz.func258 ?_;intro Z B X M;have U:=cO 0 1 Z rfl rfl;rw[uC]at U;dsimp only at U Q;refine ac kO aa aa ?_;refine aC _ (dm 3 1 900 4 rfl rfl rfl) ?_;refine aq (λ(k:Nat)=>k<=l.length) (λ k=>[(1, .ptr 1 0 0 0),(2, .ptr 2 0 0 0),(3, .ptr 3 0 0 0),(4, .int k)]) (λ k=>[(1, .cells [.int n, .d (cX l)]),(2, .cells [.int 0, .nilS]),(3, .cells [.int n, .ref 900 4 0 k k]),(900, .row 4 (((l.map mirB).take k).map bdD))]) (λ k=>l.length-k) 0 ?_ ?_ ?_
 ·exact uF _
 ·exact kN aa []
 ·intro k N;rcases uD k l.length with Y|S
  ·obtain⟨p,T⟩:=ak Y;have R:(l.map mirB)[k]? =some (mirB p):=by rw[uJ,T];rfl
   have O:=aM R;have h:((l.map mirB).take k).length=k:=by rw[yA,uC];omega
   have V:(List.map bdD ((l.map mirB).take k)).take k=List.map bdD ((l.map mirB).take k):=uE (by simp;omega);refine ac kO (av T h V) aa ?_;refine⟨k+1,?_,kN (ai O @uO.{0,0}) [(900,33)],?_⟩
   ·omega
   ·omega
  ·refine ac kO aa aa ?_;have:k=l.length:=xA;subst this;refine⟨_,_,_,_,rfl,?_⟩;simp(disch:=omega) only[go_sem,simprocAttr,toD];simp[toD,mirF,uE]
def upA (b:Bd)(s:List Int×Bool):List Int×Bool:=
 if at0 s.1 b.2.1<at0 s.1 b.1+b.2.2.1 then(s.1.set b.2.1.toNat (at0 s.1 b.1+b.2.2.1),true)else s
def upB (b:Bd)(t:Bool)(s:List Int×Bool):List Int×Bool:=
 if t&&decide (at0 s.1 b.1<at0 s.1 b.2.1-b.2.2.1)then(s.1.set b.1.toNat (at0 s.1 b.2.1-b.2.2.1),true)else s
def lx (f:List Int)(k:Nat):Bool:=match f[k]? with
 |some x=>decide (0<x)
 |none=>false
def fL (l:List Bd)(f:List Int)(k:Nat)(s:List Int×Bool):List Int×Bool:=match l[k]? with
 |some b=>upB b (lx f k) (upA b s)
 |none=>s
def ce (l:List Bd)(f r:List Int):Nat->List Int×Bool
 |0=>(r,false)
 |k+1=>fL l f k (ce l f r k)
def cm (l:List Bd)(f:List Int)(n:Nat):Nat->List Int
 |0=>List.replicate n 0
 |k+1=>(ce l f (cm l f n k) l.length).1
def fz (l:List Bd)(f:List Int)(n:Nat):Nat->Option Nat
 |0=>none
 |k+1=>match fz l f n k with|some i=>some i|none=>if(ce l f (cm l f n k) l.length).2 then none else some k
def jf (g:Net)(f:List Int):List Int×Bool:=match fz g.2 f g.1.toNat (g.1.toNat+2)with
 |some k=>(cm g.2 f g.1.toNat (k+1),true)
 |none=>([],false)
theorem TJ (b:Bd)(s:List Int×Bool):(upA b s).1.length=s.1.length:=by
 unfold upA;split<;>simp
theorem TL (b:Bd)(t:Bool)(s:List Int×Bool):(upB b t s).1.length=s.1.length:=by
 unfold upB;split<;>simp
theorem SZ (l:List Bd)(f:List Int)(k:Nat)(s:List Int×Bool):(fL l f k s).1.length=s.1.length:=by
 unfold fL;split
 ·rw[TL,TJ]
 ·rfl
theorem ui (l:List Bd)(f r:List Int):∀k,(ce l f r k).1.length=r.length
 |0=>rfl
 |k+1=>by rw[ce,SZ,ui l f r k]
theorem ng (l:List Bd)(f:List Int)(n:Nat):∀k,(cm l f n k).length=n
 |0=>by simp[cm]
 |k+1=>by rw[cm,ui,ng l f n k]
def d5 (r:List Int)(m:Int):Prop:=∀v:Int,-m<=at0 r v/\at0 r v<=m
theorem iY (r:List Int)(i:Nat)(x v:Int)(Y:0<=v):at0 (r.set i x) v=if v=i/\i<r.length then x else at0 r v:=by
 simp only[at0,qF];by_cases h:i=v.toNat
 ·subst h;by_cases Z:v.toNat<r.length
  ·rw[if_pos rfl,if_pos Z,if_pos xA];rfl
  ·rw[if_pos rfl,if_neg Z,if_neg xA,uL xA]
 ·rw[if_neg h,if_neg xA]
theorem JX (r:List Int)(v:Int)(h:v<0):at0 r v=at0 r 0:=by
 rw[at0,at0,show v.toNat=0 by omega];rfl
theorem z6 {r:List Int}{m:Int}{i:Nat}{x:Int}(h:d5 r m)(X:-m<=x)(V:x<=m):d5 (r.set i x) m:=by
 have Y:∀v:Int,0<=v->-m<=at0 (r.set i x) v/\at0 (r.set i x) v<=m:=by
  intro v Z;rw[iY _ _ _ _ Z];split
  ·exact⟨X,V⟩
  ·exact h v
 intro v;rcases(show v<0\/0<=v by omega)with Z|Z
 ·rw[JX _ _ Z];exact Y 0 (qR _)
 ·exact Y v Z
theorem mb {r:List Int}{m m':Int}(h:d5 r m)(Z:m<=m'):d5 r m':=λ v=>by have:=h v;omega
def wX (l:List Bd):Prop:=∀(k:Nat) b,l[k]? =some b->-16777216<=b.2.2.1/\b.2.2.1<=16777216
theorem TI {b:Bd}{s:List Int×Bool}{m:Int}(h:d5 s.1 m)(Y:-16777216<=b.2.2.1/\b.2.2.1<=16777216):d5 (upA b s).1 (m+16777216):=by
 unfold upA;split
 ·have Z:=h b.1;exact z6 (mb h xA) xA xA
 ·exact mb h xA
theorem TK {b:Bd}{t:Bool}{s:List Int×Bool}{m:Int}(h:d5 s.1 m)(Y:-16777216<=b.2.2.1/\b.2.2.1<=16777216):d5 (upB b t s).1 (m+16777216):=by
 unfold upB;split
 ·have Z:=h b.2.1;exact z6 (mb h xA) xA xA
 ·exact mb h xA
theorem ym {l:List Bd}{f r:List Int}{m:Int}(Z:wX l)(h:d5 r m):∀k:Nat,d5 (ce l f r k).1 (m+33554432*k)
 |0=>mb h xA
 |k+1=>by
  have Y:=ym (f:=f) Z h k;rw[ce,fL];cases X:l[k]? with
  |none=>exact mb Y xA
  |some b=>
   have:=Z k b X;exact mb (TK (TI Y this) this) xA
theorem EU {l:List Bd}{f:List Int}{n:Nat}(h:wX l)(Z:l.length<=4096):∀k:Nat,d5 (cm l f n k) (137438953472*k)
 |0=>by
  intro v;have:at0 (cm l f n 0) v=0:=by
   simp only[at0,cm,gA];split<;>rfl
  rw[this];omega
 |k+1=>by
  rw[cm];exact mb (ym h (EU h Z k) l.length) xA
theorem S4 {l:List Bd}{f:List Int}{n m k:Nat}(X:k<m)(Z:fz l f n k=none)(Y:(ce l f (cm l f n k) l.length).2=false):fz l f n m=some k:=by
 induction m with
 |zero=>omega
 |succ m V=>
  rcases qP.1 X with h|rfl
  ·simp[fz,V h]
  ·simp[fz,Z,Y]
theorem S8 {l:List Bd}{f:List Int}{n k:Nat}(h:fz l f n k=none)(Z:(ce l f (cm l f n k) l.length).2=true):fz l f n (k+1)=none:=by simp[fz,h,Z]
theorem aK {r:List Int}{i:Nat}(h:i<r.length):r[i]? =some (at0 r i):=by
 obtain⟨x,Z⟩:=ak h;rw[at0,uK,Z];rfl
theorem II {b:Bd}{t:Bool}{s:List Int×Bool}{i j:Nat}(V:b.1=i)(U:b.2.1=j)(T:i≠j)(Z:j<s.1.length)(h:at0 s.1 j<at0 s.1 i+b.2.2.1):
  upB b t (upA b s)=(s.1.set j (at0 s.1 i+b.2.2.1),true):=by
 have e:upA b s=(s.1.set j (at0 s.1 i+b.2.2.1),true):=by rw[upA,V,U,if_pos h,uK]
 have Y:=iY s.1 j (at0 s.1 i+b.2.2.1) i xA;rw[if_neg xA]at Y;have X:=iY s.1 j (at0 s.1 i+b.2.2.1) j xA;rw[if_pos ⟨rfl,Z⟩]at X;rw[e,upB,V,U];dsimp only;rw[Y,X,if_neg];simp only[uN,uG];omega
theorem IJ {b:Bd}{t:Bool}{s:List Int×Bool}{i j:Nat}(Z:b.1=i)(Y:b.2.1=j)(h:¬at0 s.1 j<at0 s.1 i+b.2.2.1)(V:t=true)(X:at0 s.1 i<at0 s.1 j-b.2.2.1):
  upB b t (upA b s)=(s.1.set i (at0 s.1 j-b.2.2.1),true):=by
 have e:upA b s=s:=by rw[upA,Z,Y,if_neg h]
 rw[e,upB,Z,Y,if_pos (by simp[V,X]),uK]
theorem zv {b:Bd}{t:Bool}{s:List Int×Bool}{i j:Nat}(Y:b.1=i)(X:b.2.1=j)(h:¬at0 s.1 j<at0 s.1 i+b.2.2.1)(Z:t=false\/¬at0 s.1 i<at0 s.1 j-b.2.2.1):
  upB b t (upA b s)=s:=by
 have e:upA b s=s:=by rw[upA,Y,X,if_neg h]
 rw[e,upB,Y,X,if_neg];rcases Z with Z|Z<;>simp[Z]
theorem sL (g:Net)(f:List Int)(hg:nOk g=true)(hfl:f.length<=1000000):ah Tryz.prog 134 [nD g,aj f] (.tup [aj (jf g f).1, .bool (jf g f).2]):=by
 obtain⟨h1,h2,h3,H⟩:=pR hg;obtain⟨m,l⟩:=g;dsimp only at h1 h2 h3 H;obtain⟨n,rfl⟩:∃n:Nat,m=n:=⟨m.toNat,xA⟩;have M:wX l:=λ k b U=>by have:=H k b U;omega
 refine kE Tryz.func134 ?_;intro hat B X w0;refine ac (cE (Nat.beq 13) (b:=true)) aa aa ?_;refine aq (λ(k:Nat)=>k<=n+2/\fz l f n k=none) (λ k=>[(1, .d (aj f)),(2, .ptr 2 0 0 0),(6, .ref 13 1 0 n n),(7, .int k)]) (λ k=>[(2, .cells [.int n, .d (cX l)]),(13, .row 1 ((cm l f n k).map D.int))]) (λ k=>n+2-k) 0 ?_ ?_ ?_
 ·exact⟨xA,rfl⟩
 ·exact kN (ai @cm.eq_1 @yT.{0,0}) []
 ·rintro k ⟨hk,Y⟩;have z:=EU (f:=f) (n:=n) M h3 k;rcases uD k (n+2)with F|hge
  ·refine ac kO aa aa ?_;refine aq (λ(i:Nat)=>i<=l.length) (λ i=>[(1, .d (aj f)),(2, .ptr 2 0 0 0),(6, .ref 13 1 0 n n),(7, .int k),(8, .bool (ce l f (cm l f n k) i).2),(9, .int i)]) (λ i=>[(2, .cells [.int n, .d (cX l)]),(13, .row 1 ((ce l f (cm l f n k) i).1.map D.int))]) (λ i=>l.length-i) 0 ?_ ?_ ?_
   ·exact uF _
   ·exact kN (ae @ce.eq_1) []
   ·intro i hi;have h:(ce l f (cm l f n k) i).1.length=n:=by rw[ui,ng]
    have A:=mb (m':=562949953421312) (ym (f:=f) M z i) xA;rcases uD i l.length with G|hig
    ·obtain⟨b,U⟩:=ak G;have hbi:=H i b U;have Z:ce l f (cm l f n k) (i+1)=upB b (lx f i) (upA b (ce l f (cm l f n k) i)):=by simp only[ce,fL,U]
     generalize ce l f (cm l f n k) i=s at h A Z|-;obtain⟨p,T⟩:∃p:Nat,b.1=p:=⟨b.1.toNat,xA⟩;obtain⟨q,S⟩:∃q:Nat,b.2.1=q:=⟨b.2.1.toNat,xA⟩;have R:=aK (r:=s.1) (i:=p) xA;have O:=aK (r:=s.1) (i:=q) xA;have wp:=A p;have wq:=A q;have E:q≠p:=xA;have K:∀x,((List.map D.int s.1).set q x)[p]? =some (D.int (at0 s.1 p)):=λ x=>by
      rw[jT E,uJ,R];rfl
     have J:∀x,((List.map D.int s.1).set q x)[q]? =some x:=λ x=>jC (by rw[uC];omega)
     rcases gJ (at0 s.1 q<at0 s.1 p+b.2.2.1)with Q|Q
     ·rw[II T S xA xA Q]at Z;rcases uD i f.length with V|V
      ·obtain⟨x,L⟩:=ak V;refine kw kO (bj U L T S R O K (av J h @yJ.{0})) aa ?_
       repeat' first|exact True.intro|refine Bn.mk ?_ ?_|intro hc
       all_goals
        refine⟨i+1,?_,kN (ai Z @yW.{0,0}) [],?_⟩
        ·omega
        ·omega
      ·refine ac kO (bj U T S R O K J (ai h @yJ.{0})) aa ?_
       all_goals
        refine⟨i+1,?_,kN (ai Z @yW.{0,0}) [],?_⟩
        ·omega
        ·omega
     ·rcases uD i f.length with V|V
      ·obtain⟨x,L⟩:=ak V;have C:lx f i=decide (0<x):=by rw[lx,L]
       rw[C]at Z;rcases gJ (0<x/\at0 s.1 p<at0 s.1 q-b.2.2.1)with I|I
       ·rw[IJ T S Q (by simp[I.1]) I.2]at Z;refine ac kO (bj U L T S R O K (av J h @yJ.{0})) aa ?_
        all_goals
         refine⟨i+1,?_,kN (ai Z @yW.{0,0}) [],?_⟩
         ·omega
         ·omega
       ·rw[zv T S Q (by rw[qJ];omega)]at Z;refine kw kO (bj U L T S R O K (av J h @yJ.{0})) aa ?_
        repeat' first|exact True.intro|refine Bn.mk ?_ ?_|intro hc
        all_goals
         refine⟨i+1,?_,kN (ai Z @yW.{0,0}) [],?_⟩
         ·omega
         ·omega
      ·have C:lx f i=false:=by rw[lx,uL V]
       rw[C,zv T S Q (.inl rfl)]at Z;refine ac kO (bj U T S R O K J (ai h @yJ.{0})) aa ?_
       all_goals
        refine⟨i+1,?_,kN (ai Z @yW.{0,0}) [],?_⟩
        ·omega
        ·omega
    ·have:i=l.length:=xA;subst this;rcases N:(ce l f (cm l f n k) l.length).2 with _|_
     ·refine ac kO aa aa ?_;have e:jf (n,l) f=(cm l f n (k+1),true):=by
       rw[jf,uK,S4 F Y N]
      rw[e,cm];exact⟨_,rfl,bZ (o:=13) rfl rfl (by simp[h]) (uE (by simp[h])),ay rfl,trivial⟩
     ·refine ac kO aa aa ?_;refine⟨k+1,?_,kN (ae @cm.eq_1) [],?_⟩
      ·exact⟨xA,S8 Y N⟩
      ·omega
  ·refine ac kO aa aa ?_;have:k=n+2:=xA;subst this;have e:jf (n,l) f=([],false):=by rw[jf,uK,Y]
   rw[e];exact⟨_,rfl,dH rfl,ay rfl,trivial⟩
def topN (a b:List Int):Nat->Int
 |0=>0
 |k+1=>max (max (topN a b k) (at0 a k)) (at0 b k)
def halfAt (a b:List Int)(t:Int)(v:Nat):Int:=(at0 a v+t-at0 b v)/2
def cn (h:Nat->Int):Nat->Int
 |0=>0
 |k+1=>if k=0\/h k<cn h k then h k else cn h k
def midF (a b:List Int):List Int:=
 let t:=topN a b a.length
 (List.range a.length).map λ v=>halfAt a b t v-cn (halfAt a b t) a.length
def fromTo (a:List Int)(m:Int):Prop:=∀v:Nat,0<=at0 a v/\at0 a v<=m
theorem u0 {a b:List Int}{m:Int}(h:fromTo a m)(Z:fromTo b m):∀k,0<=topN a b k/\topN a b k<=m
 |0=>by have:=h 0;simp only[topN];omega
 |k+1=>by have:=u0 h Z k;have:=h k;have:=Z k;simp only[topN];omega
theorem Tq {a b:List Int}{j k:Nat}(h:j<=k):topN a b j<=topN a b k:=by
 induction k with
 |zero=>rw[show j=0 by omega];exact qR _
 |succ k Y=>
  rcases uD j (k+1)with Z|Z
  ·have:=Y xA;simp only[topN];omega
  ·rw[show j=k+1 by omega];exact qR _
theorem zr {a b:List Int}{j k:Nat}(h:j<k):at0 a j<=topN a b k/\at0 b j<=topN a b k:=by
 have Z:=Tq (a:=a) (b:=b) (show j+1<=k by omega);simp only[topN]at Z;omega
theorem pJ {a b:List Int}{t m:Int}{v:Nat}(h:fromTo a m)(Z:fromTo b m)(Y:0<=t/\t<=m):-m<=halfAt a b t v/\halfAt a b t v<=m:=by
 have:=h v;have:=Z v;rw[halfAt];omega
theorem w5 {h:Nat->Int}{m:Int}(Y:0<=m)(Z:∀v,-m<=h v/\h v<=m):∀k,-m<=cn h k/\cn h k<=m
 |0=>by simp only[cn];omega
 |k+1=>by
  have:=w5 Y Z k;have:=Z k;simp only[cn];split<;>omega
theorem Tn {x:Int}(h:0<=x):x.tdiv 2=x/2:=kD h
def cz (h:Nat->Int)(k:Nat):List Int:=(List.range k).map h
theorem iH (h:Nat->Int)(k:Nat):(cz h k).length=k:=by simp[cz]
theorem Q8 (h:Nat->Int)(k:Nat):cz h (k+1)=cz h k++[h k]:=by simp[cz,qE]
theorem l0 {h:Nat->Int}{k u:Nat}(Z:u<k):(cz h k)[u]? =some (h u):=by simp[cz,Z]
def ii (h g:Nat->Int)(n k:Nat):List Int:=(List.range n).map λ u=>if u<k then g u else h u
theorem sE (h g:Nat->Int)(n k:Nat):(ii h g n k).length=n:=by simp[ii]
theorem u3 {h g:Nat->Int}{n k u:Nat}(Z:u<n):(ii h g n k)[u]? =some (if u<k then g u else h u):=by simp[ii,Z]
theorem IE (h g:Nat->Int)(n:Nat):ii h g n 0=cz h n:=by simp[ii,cz]
theorem IB (h g:Nat->Int)(n:Nat):ii h g n n=cz g n:=by
 simp only[ii,cz];refine yK λ u Z=>?_
 rw[if_pos (yD.1 Z)]
theorem IC {h g:Nat->Int}{n k:Nat}(X:k<n):(ii h g n k).set k (g k)=ii h g n (k+1):=by
 refine yX λ u=>?_
 by_cases Y:u<n
 ·rw[u3 Y,qF,u3 Y,sE];by_cases c:k=u
  ·subst c;rw[if_pos rfl,if_pos X,if_pos xA]
  ·rw[if_neg c];by_cases Z:u<k
   ·rw[if_pos Z,if_pos xA]
   ·rw[if_neg Z,if_neg xA]
 ·rw[uL (by rw[yJ,sE];omega),uL (by rw[sE];omega)]
theorem Jl (a b:List Int)(A:a.length=b.length)(hn:a.length<=1000000)(R:fromTo a 1099511627776)(Q:fromTo b 1099511627776):
  ah Tryz.prog 259 [aj a,aj b] (aj (midF a b)):=by
 refine kE Tryz.func259 ?_;intro z B X w0;refine ac kO aa aa ?_;refine aq (λ(k:Nat)=>k<=a.length) (λ k=>[(0, .d (aj a)),(1, .d (aj b)),(5, .int (topN a b k)),(6, .int k)]) (λ k=>[]) (λ k=>a.length-k) 0 ?_ ?_ ?_
 ·exact uF _
 ·exact kN aa []
 ·intro k E;rcases uD k a.length with Z|U
  ·have L:=aK Z;have K:=aK (r:=b) (i:=k) xA;refine ac kO (av L K @lR) aa ?_;refine⟨k+1,?_,kN (ae @topN.eq_1) [],?_⟩
   ·omega
   ·omega
  ·refine ac kO aa aa ?_;have:k=a.length:=xA;subst this;have Y:=u0 R Q a.length;have U:=λ j (h:j<a.length)=>zr (a:=a) (b:=b) h
   generalize H:topN a b a.length=t at Y U|-;refine aC _ (dg 7 900 1 rfl rfl) ?_;refine aq (λ(k:Nat)=>k<=a.length) (λ k=>[(0, .d (aj a)),(1, .d (aj b)),(5, .int t),(7, .ref 900 1 0 k k),(8, .int (cn (halfAt a b t) k)),(9, .int k)]) (λ k=>[(900, .row 1 ((cz (halfAt a b t) k).map D.int))]) (λ k=>a.length-k) 0 ?_ ?_ ?_
   ·exact uF _
   ·exact kN aa []
   ·intro k E;have N:=w5 xA (λ v=>pJ (v:=v) R Q Y) k;rcases uD k a.length with Z|G
    ·have L:=aK Z;have K:=aK (r:=b) (i:=k) xA;have g1:=R k;have g2:=Q k;have g3:=U k Z;have q:=pJ (v:=k) R Q Y;have V:(at0 a k+t-at0 b k).tdiv 2=halfAt a b t k:=Tn xA;have T:=iH (halfAt a b t) k;have C:=Q8 (halfAt a b t) k;have M:(List.map D.int (cz (halfAt a b t) k)).take k=List.map D.int (cz (halfAt a b t) k):=uE (by simp[T]);have O:(List.map D.int (cz (halfAt a b t) k)++[D.sc (.int .i64 (halfAt a b t k))])[k]? =some (D.int (halfAt a b t k)):=by
      rw[qL (by simp[T])];simp[T]
     rcases gJ (k=0\/halfAt a b t k<cn (halfAt a b t) k)with c|c
     ·have S:cn (halfAt a b t) (k+1)=halfAt a b t k:=by rw[cn,if_pos c]
      refine kw kO (bV L K V M T O @uH.{0}) aa ?_
      repeat' first|exact True.intro|refine Bn.mk ?_ ?_|intro hc
      all_goals
       refine⟨k+1,?_,kN (av C S @uO.{0,0}) [(900,47)],?_⟩
       ·omega
       ·omega
     ·have S:cn (halfAt a b t) (k+1)=cn (halfAt a b t) k:=by rw[cn,if_neg c]
      refine ac kO (bV L K V M T O @uH.{0}) aa ?_
      all_goals
       refine⟨k+1,?_,kN (av C S @uO.{0,0}) [(900,47)],?_⟩
       ·omega
       ·omega
    ·refine ac kO aa aa ?_;have:k=a.length:=xA;subst this;generalize J:cn (halfAt a b t) a.length=w at N|-;refine aq (λ(k:Nat)=>k<=a.length) (λ k=>[(7, .ref 900 1 0 a.length a.length),(8, .int w),(10, .int k)]) (λ k=>[(900, .row 1 ((ii (halfAt a b t) (λ v=>halfAt a b t v-w) a.length k).map D.int))]) (λ k=>a.length-k) 0 ?_ ?_ ?_
     ·exact uF _
     ·exact kN (ae @IE) []
     ·intro k E;have T:=sE (halfAt a b t) (λ v=>halfAt a b t v-w) a.length k;rcases uD k a.length with Z|F
      ·have s:(ii (halfAt a b t) (λ v=>halfAt a b t v-w) a.length k)[k]? =some (halfAt a b t k):=by rw[u3 Z,if_neg xA]
       have I:=IC (h:=halfAt a b t) (g:=λ v=>halfAt a b t v-w) Z;have q:=pJ (v:=k) R Q Y;refine ac kO (ai s T) aa ?_;refine⟨k+1,?_,kN (ai @I.symm @yW.{0,0}) [],?_⟩
       ·omega
       ·omega
      ·refine ac kO aa aa ?_;have:k=a.length:=xA;subst this;have e:midF a b=cz (λ v=>halfAt a b t v-w) a.length:=by simp only[midF,cz,H,J]
       rw[IB,e];exact bZ (o:=900) rfl rfl (by simp[iH]) (uE (by simp[iH]))
end Go.Proofs.YtjjbhjnpeenbkaaGreatDoor.Sx
namespace Go.Proofs.YtjjbhjnpeenbkaaGreatDoor.Sx
open Go Go.PS Go.Proofs
set_option maxRecDepth 100000
attribute [local irreducible] ao wpG ah ax
abbrev Stp :=Int×Int×Int×Bool
abbrev stD (s:Stp):D:= .ag [.int s.1, .int s.2.1, .int s.2.2.1, .bool s.2.2.2]
def oU (l:List Bd)(f:List Int)(v k:Nat):List Stp:=match l[k]? with
 |some b=>(if b.1=v then[(b.2.1,b.2.2.1,(k:Int),false)]else[])++(if 0<at0 f k/\b.2.1=v then[(b.1,-b.2.2.1,(k:Int),true)]else[])
 |none=>[]
def kr (l:List Bd)(f:List Int)(v:Nat):Nat->List Stp:=b8 (oU l f v)
def f5 (l:List Bd)(f:List Int)(k v:Nat):List D:=(kr l f v k).map stD
abbrev qg (n:Nat)(l:List Bd)(f:List Int):List D:=(List.range n).map λ v=> .sl (f5 l f l.length v)
theorem S0 {l:List Bd}{f:List Int}{k:Nat}{b:Bd}{p q:Nat}(Y:l[k]? =some b)(X:b.1=p)(U:b.2.1=q)(V:p≠q)(v:Nat):
  f5 l f (k+1) v=if v=p then f5 l f k v++[stD (q,b.2.2.1,k,false)]else if v=q/\0<at0 f k then f5 l f k v++[stD (p,-b.2.2.1,k,true)]else f5 l f k v:=by
 simp only[f5,kr,b8,oU,Y,X,U,uO];by_cases Z:v=p
 ·subst Z;rw[if_pos rfl,if_neg xA,if_pos rfl];simp
 ·rw[if_neg xA,if_neg Z];by_cases h:v=q/\0<at0 f k
  ·rw[if_pos ⟨h.2,xA⟩,if_pos h];simp
  ·rw[if_neg xA,if_neg h];simp
theorem uw (l:List Bd)(f:List Int)(v:Nat):∀k,(f5 l f k v).length<=2*k
 |0=>by simp[f5,kr,b8]
 |k+1=>by
  have:=uw l f v k;simp only[f5,kr,b8,uO,uH,uC]at this|-;have:(oU l f v k).length<=2:=by
   rw[oU];split
   ·split<;>split<;>simp
   ·simp
  omega
theorem S2 (n:Nat)(l:List Bd)(f:List Int)(hn:n<=2048)(hl:l.length<=4096)(H:f.length=l.length)
  (J:∀(k:Nat) b,l[k]? =some b->0<=b.1/\b.1<n/\0<=b.2.1/\b.2.1<n/\b.1≠b.2.1/\-16777216<=b.2.2.1/\b.2.2.1<=16777216):
  ah Tryz.prog 211 [pD n l f] (.sl (qg n l f)):=by
 refine kE Tryz.func211 ?_;intro K B X w0;refine ac (cE (λ s=>(Nat.beq 11 s).or ((Nat.beq 37 s).or (Nat.beq 63 s))) (b:=true)) aa aa ?_;refine aC _ (rp 1 11 4 n rfl (λ i S=>by simp(disch:=omega) only[go_sem,simprocAttr,rT,iX]) xC xC) ?_;refine dR (λ(k:Nat)=>k<=l.length) (λ k=>[(0, .d (pD n l f)),(3, .ref 11 1 0 n n),(16, .d (cX l)),(17, .int l.length),(18, .int k)]) (λ k=>[⟨1,11,4,n,f5 l f k⟩]) (λ k=>[]) (λ k=>l.length-k) 0 ?_ ?_ ?_
 ·exact uF _
 ·refine kF aa [] [] ?_
  repeat' first|exact fmn|refine fmc ⟨?_,?_⟩
  all_goals refine⟨_,(by first|rfl|(simp(disch:=omega) only[go_sem,simprocAttr,f5,kr,b8];done)|(simp(disch:=omega) only[go_sem,simprocAttr,f5,kr,b8];rfl)),λ i S=>?_⟩
  all_goals dsimp only at S|-
  all_goals try (exfalso;omega)
  all_goals try (simp(disch:=omega) only[go_sem,simprocAttr,f5,kr,b8,dh,di];done)
 ·intro k z;rcases uD k l.length with O|G
  ·obtain⟨b,U⟩:=ak O;have I:=J k b U;obtain⟨p,N⟩:∃p:Nat,b.1=p:=⟨b.1.toNat,xA⟩;obtain⟨q,M⟩:∃q:Nat,b.2.1=q:=⟨b.2.1.toNat,xA⟩;have h:p≠q:=xA;have Z:q≠p:=xA;have F:p<n:=xA;have E:q<n:=xA;have L:=aK (r:=f) (i:=k) xA;have V:=S0 (f:=f) U N M h;have C:=uw l f p k;have A:=uw l f q k;refine aC _ (jb _ _ [11] 11 p 900 1 4 n (by first|rfl|(simp(disch:=omega) only[go_sem,simprocAttr];done)|(simp(disch:=omega) only[go_sem,simprocAttr];rfl)) (by first|(simp(disch:=omega) only[go_sem,simprocAttr];done)|(simp(disch:=omega) only[go_sem,simprocAttr];rfl)) (by first|(simp(disch:=omega) only[go_sem,simprocAttr];done)|(simp(disch:=omega) only[go_sem,simprocAttr];rfl)) (λ i S Y=>by simp(disch:=omega) only[go_sem,simprocAttr,Y];(repeat' split)<;>exact .ref _ _ _ _ _ ⟨by simp(disch:=omega) only[go_sem,simprocAttr,Y],by simp(disch:=omega) only[go_sem,simprocAttr,Y]⟩) (by(repeat' first|refine iS ?_|exact iT (ids:=[11]) rfl rfl (uQ rfl)|refine iR ?_|refine iU ?_|refine iP ?_|refine iV ?_|refine iW ?_|refine iQ (by dsimp only;omega) (by dsimp only;omega) xA xA (uQ rfl) ?_);done) rfl rfl rfl) ?_;refine aC _ (jb _ _ [11,900] 11 q 901 1 4 n (by first|rfl|(simp(disch:=omega) only[go_sem,simprocAttr,h,Z];done)|(simp(disch:=omega) only[go_sem,simprocAttr,h,Z];rfl)) (by first|(simp(disch:=omega) only[go_sem,simprocAttr,h,Z];done)|(simp(disch:=omega) only[go_sem,simprocAttr,h,Z];rfl)) (by first|(simp(disch:=omega) only[go_sem,simprocAttr,h,Z];done)|(simp(disch:=omega) only[go_sem,simprocAttr,h,Z];rfl)) (λ i S Y=>by simp(disch:=omega) only[go_sem,simprocAttr,Y,h,Z];(repeat' split)<;>exact .ref _ _ _ _ _ ⟨by simp(disch:=omega) only[go_sem,simprocAttr,Y,h,Z],by simp(disch:=omega) only[go_sem,simprocAttr,Y,h,Z]⟩) (by(repeat' first|refine iS ?_|exact iT (ids:=[11,900]) rfl rfl (uQ rfl)|refine iR ?_|refine iU ?_|refine iP ?_|refine iV ?_|refine iW ?_|refine iQ (by dsimp only;omega) (by dsimp only;omega) xA xA (uQ rfl) ?_);done) rfl rfl rfl) ?_;refine kw (cE (λ s=>(Nat.beq 11 s).or ((Nat.beq 37 s).or (Nat.beq 63 s))) (b:=true)) (bq U N M L h Z) aa ?_
   repeat' first|exact True.intro|refine Bn.mk ?_ ?_|intro T
   ·refine⟨k+1,?_,kF aa [(fid 1 p,38),(fid 1 q,64)] [] ?_,?_⟩
    ·omega
    ·repeat' first|exact fmn|refine fmc ⟨?_,?_⟩
     all_goals refine⟨_,(by first|rfl|(simp(disch:=omega) only[go_sem,simprocAttr,V,h,Z,yE,uH,uV,uU,T];done)|(simp(disch:=omega) only[go_sem,simprocAttr,V,h,Z,yE,uH,uV,uU,T];rfl)),λ i S=>?_⟩
     all_goals dsimp only at S|-
     all_goals rcases gJ (i=p)with rfl|R
     all_goals rcases gJ (i=q)with rfl|Q
     all_goals try (exfalso;omega)
     all_goals try (simp(disch:=omega) only[go_sem,simprocAttr,V,h,Z,yE,uH,uV,uU,T,dh,di];done)
     all_goals try (simp(disch:=omega) only[go_sem,simprocAttr,V,h,Z,yE,uH,uV,uU,T,R,dh,di];done)
     all_goals try (simp(disch:=omega) only[go_sem,simprocAttr,V,h,Z,yE,uH,uV,uU,T,Q,dh,di];done)
     all_goals try (simp(disch:=omega) only[go_sem,simprocAttr,V,h,Z,yE,uH,uV,uU,T,R,Q,dh,di];done)
    ·omega
   ·refine⟨k+1,?_,eF [(fid 1 p,38),(fid 1 q,901)] [] _ _ _ (by refine⟨?_,?_⟩<;>(repeat' first|exact fmn|refine fmc ⟨(by first|rfl|(simp(disch:=omega) only[go_sem,simprocAttr,inL];first|done|omega|(congr 1;done))),?_⟩);done) ?_,?_⟩
    ·omega
    ·exact kT2 (bj V h Z @yE.{0} @uH.{0} @uV.{0} @uU.{0} T) p q
    ·omega
  ·refine ac kP aa aa ?_;have:k=l.length:=xA;subst this;refine aC _ (Lt.1 (kG aa [] [] [(2, .ref 11 1 0 n n)] [⟨1,11,4,n,f5 l f l.length⟩] [] ?_)) ?_
   ·exact cK aa
   ·refine aC _ (k6 _ _ _ _ ⟨cc rfl,cc rfl,(by(repeat' first|exact fmn|refine fmc ⟨⟨uQ rfl,uQ rfl,by dsimp only;omega⟩,?_⟩);done)⟩ rfl [11] rfl rfl rfl rfl) ?_;refine ac kO aa aa ?_;exact bZ (o:=11) rfl rfl xB (uE xB)
end Go.Proofs.YtjjbhjnpeenbkaaGreatDoor.Sx
namespace Go.Proofs.YtjjbhjnpeenbkaaGreatDoor.Sx
open Go Go.PS Go.Proofs
abbrev Way :=Int×Int×Stp×Bool
abbrev u5 (w:Way):D:= .ag [.int w.1, .int w.2.1, .int w.2.2.1.1, .int w.2.2.1.2.1, .int w.2.2.1.2.2.1, .bool w.2.2.1.2.2.2, .bool w.2.2.2]
def qo :Way:=(0,0,(0,0,0,false),false)
def ik :Way:=(-1152921504606846976,0,(0,0,0,false),false)
def f9 :Way:=(0,0,(0,0,0,false),true)
abbrev LS :=List Way×List Bool×List Int
def wAt (W:List Way)(v:Int):Way:=(W[v.toNat]?).getD ik
def bAt (B:List Bool)(v:Int):Bool:=(B[v.toNat]?).getD true
def cw (v:Int)(σ:LS)(s:Stp):LS:=
 if(wAt σ.1 s.1).1<(wAt σ.1 v).1+s.2.1 then
  (σ.1.set s.1.toNat ((wAt σ.1 v).1+s.2.1,v,s,false),if bAt σ.2.1 s.1 then σ.2 else(σ.2.1.set s.1.toNat true,σ.2.2++[s.1]))
 else σ
def inner (L:List Stp)(v:Int)(σ:LS)(i:Nat):LS:=(L.take i).foldl (cw v) (σ.1,σ.2.1.set v.toNat false,σ.2.2)
def TW (ST:Nat->List Stp)(σ:LS)(v:Int):LS:=inner (ST v.toNat) v σ (ST v.toNat).length
def c8 (ST:Nat->List Stp)(σ:LS)(j:Nat):LS:=(σ.2.2.take j).foldl (TW ST) (σ.1,σ.2.1,[])
def aY (ST:Nat->List Stp)(σ:LS):Nat->LS
 |0=>σ
 |k+1=>c8 ST (aY ST σ k) (aY ST σ k).2.2.length
theorem wy {Z Y:Type}{f:Y->Z->Y}{l:List Z}{k:Nat}{x:Z}(a:Y)(h:l[k]? =some x):(l.take (k+1)).foldl f a=f ((l.take k).foldl f a) x:=by
 rw[aM h,Bc];rfl
theorem rB {L:List Stp}{v:Int}{σ:LS}{i:Nat}{s:Stp}(h:L[i]? =some s):inner L v σ (i+1)=cw v (inner L v σ i) s:=wy _ h
theorem rN {ST:Nat->List Stp}{σ:LS}{j:Nat}{v:Int}(h:σ.2.2[j]? =some v):c8 ST σ (j+1)=inner (ST v.toNat) v (c8 ST σ j) (ST v.toNat).length:=wy _ h
def jz (n:Nat)(U:Int)(c:Nat)(σ:LS):Prop:=
 σ.1.length=n/\σ.2.1.length=n/\(∀x∈σ.2.2,0<=x/\x<(n:Int))/\(∀w∈σ.1,-1152921504606846976<=w.1/\w.1<=U)/\σ.2.2.length<=σ.2.1.count true+c
def og (n:Nat)(v:Int)(L:List Stp):Prop:=∀s∈L,0<=s.1/\s.1<(n:Int)/\s.1≠v/\-16777216<=s.2.1/\s.2.1<=16777216
theorem KY (l:List Bool):∀v,l.count true<=(l.set v false).count true+1:=by
 induction l with
 |nil=>intro v;simp
 |cons b l Z=>
  intro v;cases v with
  |zero=>cases b<;>simp
  |succ v=>have:=Z v;cases b<;>simp<;>omega
theorem KZ (l:List Bool):∀v,l[v]? =some false->(l.set v true).count true=l.count true+1:=by
 induction l with
 |nil=>intro v h;simp at h
 |cons b l Z=>
  intro v h;cases v with
  |zero=>simp at h;subst h;simp
  |succ v=>have:=Z v (by simpa using h);cases b<;>simp<;>omega
theorem iL {W:List Way}{v:Int}{n:Nat}(X:W.length=n)(Z:0<=v)(Y:v<(n:Int)):W[v.toNat]? =some (wAt W v):=by
 obtain⟨x,h⟩:=ak (show v.toNat<W.length by omega);rw[wAt,h];rfl
theorem vr {W:List Bool}{v:Int}{n:Nat}(X:W.length=n)(Z:0<=v)(Y:v<(n:Int)):W[v.toNat]? =some (bAt W v):=by
 obtain⟨x,h⟩:=ak (show v.toNat<W.length by omega);rw[bAt,h];rfl
theorem n7 {W:List Way}{u v:Int}{x:Way}(Y:0<=u)(X:0<=v)(Z:v.toNat<W.length):wAt (W.set v.toNat x) u=if u=v then x else wAt W u:=by
 rw[wAt,qF];by_cases h:u=v
 ·subst h;rw[if_pos rfl,if_pos Z,if_pos rfl];rfl
 ·rw[if_neg xA,if_neg h];rfl
theorem QC {n c:Nat}{U v:Int}{σ:LS}{s:Stp}(h:jz n (U+16777216) c σ)(L:(wAt σ.1 v).1<=U)(K:0<=v)(I:0<=s.1/\s.1<(n:Int)/\s.1≠v/\-16777216<=s.2.1/\s.2.1<=16777216):
  jz n (U+16777216) c (cw v σ s)/\(wAt (cw v σ s).1 v).1<=U:=by
 obtain⟨V,Y,T,S,N⟩:=h;obtain⟨X,O,H,G,F⟩:=I;rw[cw];split
 ·rename_i J;have M:=S _ (uA (iL V X O));refine⟨⟨by simp[V],?_,?_,?_,?_⟩,?_⟩
  ·split
   ·exact Y
   ·simp[Y]
  ·split
   ·exact T
   ·intro x Z;rcases yP.1 Z with Z|Z
    ·exact T x Z
    ·rw[uX.1 Z];exact⟨X,O⟩
  ·intro w Q;rcases kL Q with Q|rfl
   ·exact S w Q
   ·dsimp only;omega
  ·split
   ·exact N
   ·rename_i R;have R:bAt σ.2.1 s.1=false:=by simpa using R
    have:=KZ σ.2.1 s.1.toNat (by rw[vr Y X O,R]);dsimp only;rw[uH,this,yO];omega
  ·dsimp only;rw[n7 K X xA,if_neg xA];exact L
 ·exact⟨⟨V,Y,T,S,N⟩,L⟩
theorem Mi {n c Y:Nat}{U Z:Int}{σ:LS}(h:jz n U c σ)(O:U<=Z)(N:c<=Y):jz n Z Y σ:=by
 obtain⟨X,V,T,S,Q⟩:=h;exact⟨X,V,T,λ w R=>by have:=S w R;omega,xA⟩
theorem EL {n c:Nat}{U v:Int}{σ:LS}{L:List Stp}(h:jz n U c σ)(S:0<=v)(Y:v<(n:Int))(hL:og n v L):
  ∀i,jz n (U+16777216) (c+1) (inner L v σ i)/\(wAt (inner L v σ i).1 v).1<=U:=by
 intro i
 induction i with
 |zero=>
  obtain⟨V,Q,O,T,M⟩:=h;have:=KY σ.2.1 v.toNat;exact⟨⟨V,by simp[inner,Q],O,λ w N=>by have:=T w N;omega,by simp only[inner,yQ,Bh];omega⟩,(T _ (uA (iL V S Y))).2⟩
 |succ i X=>
  rcases uD i L.length with Z|Z
  ·obtain⟨s,R⟩:=ak Z;rw[rB R];exact QC X.1 X.2 S (hL s (uA R))
  ·have:inner L v σ (i+1)=inner L v σ i:=by rw[inner,inner,uE xA,uE Z]
   rw[this];exact X
theorem xa {n c:Nat}{U:Int}{σ:LS}{ST:Nat->List Stp}(h:jz n U c σ)(Y:∀v:Nat,v<n->og n v (ST v)):
  ∀j,j<=σ.2.2.length->jz n (U+16777216*j) j (c8 ST σ j):=by
 intro j
 induction j with
 |zero=>intro _;obtain⟨V,T,O,S,N⟩:=h;exact⟨V,T,by simp[c8],λ w R=>by have:=S w R;omega,by simp[c8]⟩
 |succ j Q=>
  intro M;obtain⟨v,X⟩:=ak (show j<σ.2.2.length by omega);have Z:=h.2.2.1 v (uA X);rw[rN X];refine Mi (EL (Q xA) Z.1 Z.2 (?_) _).1 xA (uI _);have:=Y v.toNat xA
  rwa [show((v.toNat:Nat):Int)=v by omega]at this
theorem EW {n:Nat}{σ:LS}{ST:Nat->List Stp}(R:n<=2048)(h:jz n 0 σ.2.2.length σ)(Q:σ.2.2.length<=n)(Z:∀v:Nat,v<n->og n v (ST v)):
  ∀k,k<=n+1->jz n (70437463654400*k) (aY ST σ k).2.2.length (aY ST σ k)/\(aY ST σ k).2.2.length<=n*(k+1):=by
 intro k
 induction k with
 |zero=>intro _;exact⟨by simpa[aY]using h,by simpa[aY]using Q⟩
 |succ k M=>
  intro I;obtain⟨T,K⟩:=M xA;have S:=xa T Z (aY ST σ k).2.2.length (uI _);have O:(aY ST σ k).2.2.length<=4198400:=by
   have:n*(k+1)<=2048*2050:=jW R xA;omega
  obtain⟨X,Y,V,U,L⟩:=S;have J:((c8 ST (aY ST σ k) (aY ST σ k).2.2.length).2.1).count true<=n:=by rw[<-Y];exact List.count_le_length
  refine⟨⟨X,Y,V,λ w N=>?_,by simp only[aY];omega⟩,?_⟩
  ·have:=U w N;omega
  ·simp only[aY];have:n*(k+1+1)=n*(k+1)+n:=by rw[Nat.mul_succ]
   omega
def iJ (n:Nat)(st:List Int)(j:Nat):List Way:=(st.take j).foldl (λ W v=>W.set v.toNat f9) (List.replicate n ik)
theorem H1 {n:Nat}{st:List Int}{j:Nat}{v:Int}(h:st[j]? =some v):iJ n st (j+1)=(iJ n st j).set v.toNat f9:=wy _ h
theorem qf (n:Nat)(st:List Int):∀j,(iJ n st j).length=n:=by
 intro j;rw[iJ];generalize st.take j=l;have:∀(l:List Int) (W:List Way),(l.foldl (λ W v=>W.set v.toNat f9) W).length=W.length:=by
  intro l
  induction l with
  |nil=>intro W;rfl
  |cons v l Z=>intro W;rw[jG,Z];simp
 rw[this];simp
theorem SW (n:Nat)(st:List Int)(j:Nat):∀w∈iJ n st j,w=ik\/w=f9:=by
 rw[iJ];generalize st.take j=l;have:∀(l:List Int) (W:List Way),(∀w∈W,w=ik\/w=f9)->∀w∈l.foldl (λ W v=>W.set v.toNat f9) W,w=ik\/w=f9:=by
  intro l
  induction l with
  |nil=>intro W h;exact h
  |cons v l Y=>
   intro W h;rw[jG];refine Y _ λ w Z=>?_
   rcases kL Z with Z|rfl
   ·exact h w Z
   ·exact .inr rfl
 exact this l _ λ w Z=> .inl (Ag Z)
def aU (n:Nat)(st:List Int):LS:=(iJ n st st.length,List.replicate n false,st)
theorem H2 {n:Nat}{st:List Int}(h:∀x∈st,0<=x/\x<(n:Int)):jz n 0 (aU n st).2.2.length (aU n st):=by
 refine⟨qf _ _ _,by simp[aU],h,λ w Z=>?_,xA⟩;rcases SW _ _ _ w Z with rfl|rfl<;>simp[ik,f9]
def pC (n:Nat)(ST:Nat->List Stp)(st:List Int):Option Nat:=dK (λ k=>(aY ST (aU n st) k).2.2.isEmpty) (n+2)
def eP (n:Nat)(ST:Nat->List Stp)(st:List Int):Option (List Way):=(pC n ST st).map λ k=>(aY ST (aU n st) k).1
end Go.Proofs.YtjjbhjnpeenbkaaGreatDoor.Sx
