/- Contracts of small functions on ranking problems. -/
import Derived.Test.YtjjbhjnpeenbkaaGreatDoorTypes
set_option linter.unusedSimpArgs false
set_option linter.unusedVariables false
set_option maxHeartbeats 16000000
namespace Go.Proofs.YtjjbhjnpeenbkaaGreatDoor.Sx
open Go Go.PS Go.Proofs
set_option maxRecDepth 100000
attribute [local irreducible] Zad wpG Zaa
abbrev Bd :=Int×Int×Int×Int
abbrev bdD (b:Bd):D:= .ag [.int b.1, .int b.2.1, .int b.2.2.1, .int b.2.2.2]
abbrev Zcn (l:List Bd):D:= .sl (l.map bdD)
abbrev Zab (l:List Int):D:= .sl (l.map D.int)
abbrev Net :=Int×List Bd
abbrev nD (n:Net):D:= .ag [.int n.1,Zcn n.2]
theorem ite_min (a b:Int):(if b<a then b else a)=min a b:=by omega
theorem ite_max (a b:Int):(if a<b then b else a)=max a b:=by omega
def bdIn (n:Int)(b:Bd):Bool:=decide (0<=b.1/\b.1<n/\0<=b.2.1/\b.2.1<n/\b.1≠b.2.1/\-16777216<=b.2.2.1/\b.2.2.1<=16777216/\0<=b.2.2.2/\b.2.2.2<=8000)
def nOk (n:Net):Bool:=decide (0<=n.1/\n.1<=2048/\n.2.length<=4096)&& !n.2.any (λ b=> !bdIn n.1 b)
theorem Zic {n:Net}(h:nOk n=true):0<=n.1/\n.1<=2048/\n.2.length<=4096/\∀(k:Nat) b,n.2[k]? =some b->
  0<=b.1/\b.1<n.1/\0<=b.2.1/\b.2.1<n.1/\b.1≠b.2.1/\-16777216<=b.2.2.1/\b.2.2.1<=16777216/\0<=b.2.2.2/\b.2.2.2<=8000:=by
 simp only[nOk,uL,uF,yC,yS]at h;obtain⟨⟨h1,h2,h3⟩,h4⟩:=h;refine⟨h1,h2,h3,λ k b hk=>?_⟩;have:=h4 b (uA hk);simpa[bdIn]using this
theorem Zgi (g:Net):Zaa Tryz.prog 159 [nD g] (.bool (nOk g)):=by
 obtain⟨n,l⟩:=g;refine kE Tryz.func159 ?_;intro hat B X w0;have hl:=Zcf 0 1 hat rfl rfl;rw[uC]at hl;refine kw kO kc0 kc0 ?_
 repeat' first|exact True.intro|refine Bn.mk ?_ ?_|intro hc
 all_goals try (refine Zah ?_;simp[nOk];omega)
 refine Zaf (λ(k:Nat)=>k<=l.length/\∀(j:Nat) y,j<k->l[j]? =some y->(!bdIn n y)=false) (λ k=>[(1, .ptr 1 0 0 0),(20, .d (Zcn l)),(21, .int l.length),(22, .int k)]) (λ k=>[(1, .cells [.int n, .d (Zcn l)])]) (λ k=>l.length-k) 0 ?_ ?_ ?_
 ·exact⟨uH _,λ j y h=>by omega⟩
 ·exact kN kc0 []
 ·rintro k ⟨hk,hinv⟩;rcases uE k l.length with hlt|hge
  ·obtain⟨p,hp⟩:=Zac hlt;refine kw kO (kc3 hp @ite_min @ite_max) kc0 ?_
   repeat' first|exact True.intro|refine Bn.mk ?_ ?_|intro hc
   all_goals try
    refine Zah ?_;rw[nOk,ZcE hp (by rw[bdIn,yC,qC];omega)];simp
   ·refine⟨k+1,?_,eL [] _ _ (by refine⟨?_,?_⟩<;>(repeat' first|exact fmn|refine fmc ⟨(by first|rfl|(simp(disch:=omega) only[go_sem,simprocAttr,inL];first|done|omega|(congr 1;done))),?_⟩);done),?_⟩
    ·exact⟨by omega,Zbr hinv hp (by rw[bdIn,Ao,uF];omega)⟩
    ·omega
  ·refine kw1 kO kc0 kc0 ?_;refine Zah ?_;rw[nOk,Zc2 (λ j y hj=>hinv j y (by omega))];simp;omega
theorem Zkv (g:Net):Zaa Tryz.prog 133 [nD g] (.bool (nOk g)):=by
 obtain⟨n,l⟩:=g;refine kE Tryz.func133 ?_;intro hat B X w0;have hl:=Zcf 0 1 hat rfl rfl;rw[uC]at hl;refine kw kO kc0 kc0 ?_
 repeat' first|exact True.intro|refine Bn.mk ?_ ?_|intro hc
 all_goals try (refine Zah ?_;simp[nOk];omega)
 refine Zaf (λ(k:Nat)=>k<=l.length/\∀(j:Nat) y,j<k->l[j]? =some y->(!bdIn n y)=false) (λ k=>[(1, .ptr 1 0 0 0),(3, .int k)]) (λ k=>[(1, .cells [.int n, .d (Zcn l)])]) (λ k=>l.length-k) 0 ?_ ?_ ?_
 ·exact⟨uH _,λ j y h=>by omega⟩
 ·exact kN kc0 []
 ·rintro k ⟨hk,hinv⟩;rcases uE k l.length with hlt|hge
  ·obtain⟨p,hp⟩:=Zac hlt;refine kw kO (kc1 hp) kc0 ?_
   repeat' first|exact True.intro|refine Bn.mk ?_ ?_|intro hc
   all_goals try
    refine Zah ?_;rw[nOk,ZcE hp (by rw[bdIn,yC,qC];omega)];simp
   ·refine⟨k+1,?_,eL [] _ _ (by refine⟨?_,?_⟩<;>(repeat' first|exact fmn|refine fmc ⟨(by first|rfl|(simp(disch:=omega) only[go_sem,simprocAttr,inL];first|done|omega|(congr 1;done))),?_⟩);done),?_⟩
    ·exact⟨by omega,Zbr hinv hp (by rw[bdIn,Ao,uF];omega)⟩
    ·omega
  ·refine kw1 kO kc0 kc0 ?_;refine Zah ?_;rw[nOk,Zc2 (λ j y hj=>hinv j y (by omega))];simp;omega
def Zim (x:Int):Bool:=decide (-34359738368<=x/\x<=34359738368)
def rkOk (g:Net)(r:List Int):Bool:=nOk g&&decide ((r.length:Int)=g.1)&& !r.any (λ x=> !Zim x)
def at0 (r:List Int)(v:Int):Int:=(r[v.toNat]?).getD 0
theorem ZdK {r:List Int}{v:Int}(h1:0<=v)(h2:v<r.length):r[v.toNat]? =some (at0 r v):=by
 obtain⟨x,hx⟩:=Zac (show v.toNat<r.length by omega);rw[at0,hx];rfl
theorem rkOk_in {g:Net}{r:List Int}(h:rkOk g r=true):nOk g=true/\(r.length:Int)=g.1/\∀v:Int,0<=v->v<g.1->r[v.toNat]? =some (at0 r v)/\-34359738368<=at0 r v/\at0 r v<=34359738368:=by
 simp only[rkOk,uL,uF,yC,yS]at h;obtain⟨⟨h1,h2⟩,h3⟩:=h;refine⟨h1,h2,λ v hv1 hv2=>?_⟩;have:=ZdK hv1 (show v<r.length by omega);refine⟨this,?_⟩;have:=h3 _ (uA this);simpa[Zim]using this
theorem ZpN (g:Net)(r:List Int):Zaa Tryz.prog 85 [nD g,Zab r] (.bool (rkOk g r)):=by
 rcases hg:nOk g with _|_
 ·have hv:Zaa Tryz.prog 133 [nD g] (.bool false):=hg▸Zkv g;refine kE Tryz.func85 ?_;intro hat B X w0;refine kw1 kO kc0 (kc1 hv) ?_
  all_goals (refine Zah ?_;simp[rkOk,hg])
 ·have hv:Zaa Tryz.prog 133 [nD g] (.bool true):=hg▸Zkv g;obtain⟨h1,h2,h3,h4⟩:=Zic hg;refine kE Tryz.func85 ?_;intro hat B X w0;have hl:=ZaJ 1 hat rfl;rw[uC]at hl;refine kw kO kc0 (kc1 hv) ?_
  repeat' first|exact True.intro|refine Bn.mk ?_ ?_|intro hc
  all_goals try (refine Zah ?_;simp[rkOk,hg];omega)
  refine Zaf (λ(k:Nat)=>k<=r.length/\∀(j:Nat) y,j<k->r[j]? =some y->(!Zim y)=false) (λ k=>[(1, .d (Zab r)),(5, .int k)]) (λ k=>[]) (λ k=>r.length-k) 0 ?_ ?_ ?_
  ·exact⟨uH _,λ j y h=>by omega⟩
  ·exact kN kc0 []
  ·rintro k ⟨hk,hinv⟩;rcases uE k r.length with hlt|hge
   ·obtain⟨p,hp⟩:=Zac hlt;refine kw kO (kc1 hp) kc0 ?_
    repeat' first|exact True.intro|refine Bn.mk ?_ ?_|intro hc
    all_goals try
     refine Zah ?_;rw[rkOk,ZcE hp (by rw[Zim,yC,qC];omega)];simp
    ·refine⟨k+1,?_,eL [] _ _ (by refine⟨?_,?_⟩<;>(repeat' first|exact fmn|refine fmc ⟨(by first|rfl|(simp(disch:=omega) only[go_sem,simprocAttr,inL];first|done|omega|(congr 1;done))),?_⟩);done),?_⟩
     ·exact⟨by omega,Zbr hinv hp (by rw[Zim,Ao,uF];omega)⟩
     ·omega
   ·refine kw1 kO kc0 kc0 ?_;refine Zah ?_;rw[rkOk,Zc2 (λ j y hj=>hinv j y (by omega))];simp[hg];omega
def gap (r:List Int)(b:Bd):Int:=at0 r b.2.1-at0 r b.1
def Zd7 (g:Net)(r:List Int):Bool:=rkOk g r&& !g.2.any (λ b=>decide (gap r b<b.2.2.1))
def ZaF (f:Nat->Int):Nat->Int
 |0=>0
 |k+1=>ZaF f k+f k
theorem Zdd (f:Nat->Int)(k:Nat):ZaF f (k+1)=ZaF f k+f k:=rfl
theorem Zu5 {f:Nat->Int}{c:Int}{m:Nat}(h:∀k,k<m->-c<=f k/\f k<=c):∀k,k<=m->-(c*k)<=ZaF f k/\ZaF f k<=c*k:=by
 intro k
 induction k with
 |zero=>intro _;simp[ZaF]
 |succ k ih=>
  intro hk;have h1:=ih (by omega);have h2:=h k (by omega);have:c*((k+1:Nat):Int)=c*k+c:=by rw[Int.natCast_succ,zW,Int.mul_one]
  rw[ZaF,this];omega
def ZdN (r:List Int)(l:List Bd)(k:Nat):Int:=match l[k]? with
 |some b=>b.2.2.2*gap r b
 |none=>0
def ZgY (g:Net)(r:List Int):Int:=if rkOk g r then ZaF (ZdN r g.2) g.2.length else 0
def Zc1 (l:List Bd)(f:List Int)(v:Int)(j:Nat):Int:=match l[j]?,f[j]? with
 |some b,some x=>(if b.2.1=v then x-b.2.2.2 else 0)-(if b.1=v then x-b.2.2.2 else 0)
 |_,_=>0
def Zs6 (r:List Int)(l:List Bd)(f:List Int)(j:Nat):Bool:=match l[j]?,f[j]? with
 |some b,some x=>decide (0<=x/\x<=1099511627776/\(0<x->gap r b=b.2.2.1))
 |_,_=>false
end Go.Proofs.YtjjbhjnpeenbkaaGreatDoor.Sx
namespace Go.Proofs.YtjjbhjnpeenbkaaGreatDoor.Sx
open Go Go.PS Go.Proofs
set_option maxRecDepth 100000
attribute [local irreducible] Zad wpG Zaa Zag
abbrev pD (n:Nat)(l:List Bd)(f:List Int):D:= .pt [.int n,Zcn l,Zab f]
def Zce (n:Nat):List Int:=(List.range n).map λ u:Nat=>(u:Int)
def Za9 (g:Nat->Int)(n k:Nat):List Int:=(List.range n).map λ u=>if u<k then g u else 0
theorem ZdB (g:Nat->Int)(n k:Nat):(Za9 g n k).length=n:=by simp[Za9]
theorem Zft {g:Nat->Int}{n k u:Nat}(h:u<n):(Za9 g n k)[u]? =some (if u<k then g u else 0):=by simp[Za9,h]
theorem Zh0 (g:Nat->Int)(n:Nat):(Za9 g n 0).map D.int=List.replicate n (D.int 0):=by
 rw[zP];refine⟨by simp[Za9],λ b hb=>?_⟩;simp only[Za9,gR,uP]at hb;obtain⟨u,_,rfl⟩:=hb;simp
theorem ZhZ {g:Nat->Int}{n k:Nat}(h:k<n):(Za9 g n k).set k (g k)=Za9 g n (k+1):=by
 refine qA λ u=>?_
 by_cases hu:u<n
 ·rw[Zft hu,qL,Zft hu,ZdB];by_cases c:k=u
  ·subst c;rw[if_pos rfl,if_pos h,if_pos (by omega)]
  ·rw[if_neg c];by_cases c2:u<k
   ·rw[if_pos c2,if_pos (by omega)]
   ·rw[if_neg c2,if_neg (by omega)]
 ·rw[uN (by rw[yP,ZdB];omega),uN (by rw[ZdB];omega)]
theorem ZhY (g:Nat->Int)(n:Nat):Za9 g n n=(List.range n).map g:=by
 rw[Za9];refine yM λ u hu=>?_
 rw[if_pos (uZ.1 hu)]
theorem ZmM (n:Nat)(l:List Bd)(f:List Int)(hn:n<=2048):Zag Tryz.prog 161 [.d (pD n l f)] [(2000, .dead)] (.ref 2000 1 0 n n) [(2000, .row 1 ((Zce n).map D.int))]:=by
 refine kM Tryz.func161 ?_;intro B X w0;refine kw1 (kow (Nat.beq 10) (b:=true)) kc0 kc0 ?_;refine Zaf (λ(k:Nat)=>k<=n) (λ k=>[(3, .ref 10 1 0 n n),(12, .int n),(13, .int k)]) (λ k=>[(10, .row 1 ((Za9 (λ u=>(u:Int)) n k).map D.int))]) (λ k=>n-k) 0 ?_ ?_ ?_
 ·exact uH _
 ·exact kN (kc1 @Zh0) []
 ·intro k hk;have hlen:=ZdB (λ u=>(u:Int)) n k;rcases uE k n with hlt|hge
  ·have hg:(Za9 (λ u=>(u:Int)) n k)[k]? =_:=Zft hlt;have hst:=ZhZ (g:=λ u=>(u:Int)) hlt;refine kw1 kO (kc2 hg hlen) kc0 ?_;refine⟨k+1,?_,kN (kc2 @hst.symm @yZ.{0,0}) [],?_⟩
   ·omega
   ·omega
  ·refine kw1 kP kc0 kc0 ?_;have:k=n:=by omega
   subst this;refine kR kc0 [(2000,10)] [(2, .ref 2000 1 0 _ _)] [(2000, .row 1 _)] ?_;refine Za7 ?_;exact⟨rfl,uK.2 ⟨ZoS (by rw[ZhY];rfl),uW _⟩⟩
def Zed (l:List Bd)(v:Int)(j:Nat):Int:=match l[j]? with
 |some b=>(if b.2.1=v then b.2.2.2 else 0)-(if b.1=v then b.2.2.2 else 0)
 |none=>0
def ZbP (l:List Bd)(n k:Nat):List Int:=(List.range n).map λ v:Nat=>ZaF (Zed l v) k
theorem Zi7 (l:List Bd)(n k:Nat):(ZbP l n k).length=n:=by simp[ZbP]
theorem ZAx (l:List Bd)(n:Nat):(ZbP l n 0).map D.int=List.replicate n (D.int 0):=by
 rw[zP];refine⟨by simp[ZbP],λ b hb=>?_⟩;simp only[ZbP,gR,uP]at hb;obtain⟨u,_,rfl⟩:=hb;rfl
theorem Zke {l:List Bd}{n k u:Nat}(hu:u<n):(ZbP l n k)[u]? =some (ZaF (Zed l u) k):=by simp[ZbP,hu]
theorem ZAz {l:List Bd}{n k i j:Nat}{b:Bd}(hb:l[k]? =some b)(hi:b.1=i)(hj:b.2.1=j)(hij:i≠j)(hin:i<n)(hjn:j<n):
  ZbP l n (k+1)=((ZbP l n k).set j (ZaF (Zed l j) k+b.2.2.2)).set i (ZaF (Zed l i) k-b.2.2.2):=by
 refine qA λ u=>?_
 by_cases hu:u<n
 ·rw[Zke hu,Zdd,qL,qL,yP,Zi7,Zke hu];have e:Zed l u k=(if b.2.1=(u:Int)then b.2.2.2 else 0)-(if b.1=(u:Int)then b.2.2.2 else 0):=by simp[Zed,hb]
  rw[e,hi,hj];by_cases c1:i=u
  ·subst c1;rw[if_neg (by omega),if_pos rfl,if_pos rfl,if_pos hu];congr 1;omega
  ·by_cases c2:j=u
   ·subst c2;rw[if_pos rfl,if_neg (by omega),if_neg c1,if_pos rfl,if_pos hu];congr 1;omega
   ·rw[if_neg (by omega),if_neg (by omega),if_neg c1,if_neg c2];congr 1;omega
 ·rw[uN (by rw[Zi7];omega),uN (by rw[yP,yP,Zi7];omega)]
theorem Zob {l:List Bd}{v:Int}{m:Nat}(hm:m<=l.length)(h4:∀(k:Nat) b,l[k]? =some b->0<=b.2.2.2/\b.2.2.2<=8000):
  -(8000*(m:Int))<=ZaF (Zed l v) m/\ZaF (Zed l v) m<=8000*(m:Int):=by
 refine Zu5 (m:=m) (λ k hk=>?_) m (uJ _);obtain⟨b,hb⟩:=Zac (show k<l.length by omega);have h5:=h4 k b hb;simp only[Zed,hb];split<;>split<;>omega
theorem ZAA (n:Nat)(l:List Bd)(f:List Int)(hg:nOk (n,l)=true):Zag Tryz.prog 212 [.d (pD n l f)] [(2000, .dead)] (.ref 2000 1 0 n n) [(2000, .row 1 ((ZbP l n l.length).map D.int))]:=by
 obtain⟨h1,h2,h3,h4⟩:=Zic hg;dsimp only at h1 h2 h3 h4;refine kM Tryz.func212 ?_;intro B X w0;refine kw1 (kow (Nat.beq 11) (b:=true)) kc0 kc0 ?_;refine Zaf (λ(k:Nat)=>k<=l.length) (λ k=>[(3, .ref 11 1 0 n n),(16, .d (Zcn l)),(17, .int l.length),(18, .int k)]) (λ k=>[(11, .row 1 ((ZbP l n k).map D.int))]) (λ k=>l.length-k) 0 ?_ ?_ ?_
 ·exact uH _
 ·exact kN (kc1 @ZAx) []
 ·intro k hk;have hbl:=Zi7 l n k;rcases uE k l.length with hlt|hge
  ·obtain⟨b,hb⟩:=Zac hlt;have hbi:=h4 k b hb;obtain⟨i,hi⟩:∃i:Nat,b.1=i:=⟨b.1.toNat,by omega⟩;obtain⟨j,hj⟩:∃j:Nat,b.2.1=j:=⟨b.2.1.toNat,by omega⟩;have gi:(ZbP l n k)[i]? =_:=Zke (by omega);have gj:(ZbP l n k)[j]? =_:=Zke (by omega);have bi:=Zob (v:=i) (show k<=l.length by omega) (λ k b hb=>by have:=h4 k b hb;omega);have bj:=Zob (v:=j) (show k<=l.length by omega) (λ k b hb=>by have:=h4 k b hb;omega);have hst:=ZAz (n:=n) hb hi hj (by omega) (by omega) (by omega);have hij:j≠i:=by omega
   have gs:((List.map D.int (ZbP l n k)).set j (D.sc (.int .i64 (ZaF (Zed l j) k+b.2.2.2))))[i]? =some (D.int (ZaF (Zed l i) k)):=by
    rw[jJ hij,uI,gi];rfl
   refine kw1 kO (kc8 hb hi hj gi gj gs hbl @yP.{0}) kc0 ?_;refine⟨k+1,?_,kN (kc2 hst @yZ.{0,0}) [],?_⟩
   ·omega
   ·omega
  ·refine kw1 kP kc0 kc0 ?_;have:k=l.length:=by omega
   subst this;refine kR kc0 [(2000,11)] [(2, .ref 2000 1 0 _ _)] [(2000, .row 1 _)] ?_;refine Za7 ?_;exact⟨rfl,uK.2 ⟨rfl,uW _⟩⟩
end Go.Proofs.YtjjbhjnpeenbkaaGreatDoor.Sx
namespace Go.Proofs.YtjjbhjnpeenbkaaGreatDoor.Sx
open Go Go.PS Go.Proofs
set_option maxRecDepth 100000
attribute [local irreducible] Zad wpG Zaa
def mirB (b:Bd):Bd:=(b.2.1,b.1,b.2.2.1,b.2.2.2)
def mirF (g:Net):Net:=(g.1,g.2.map mirB)
def upA (b:Bd)(s:List Int×Bool):List Int×Bool:=
 if at0 s.1 b.2.1<at0 s.1 b.1+b.2.2.1 then(s.1.set b.2.1.toNat (at0 s.1 b.1+b.2.2.1),true)else s
def upB (b:Bd)(t:Bool)(s:List Int×Bool):List Int×Bool:=
 if t&&decide (at0 s.1 b.1<at0 s.1 b.2.1-b.2.2.1)then(s.1.set b.1.toNat (at0 s.1 b.2.1-b.2.2.1),true)else s
def Zjq (f:List Int)(k:Nat):Bool:=match f[k]? with
 |some x=>decide (0<x)
 |none=>false
def ZkC (l:List Bd)(f:List Int)(k:Nat)(s:List Int×Bool):List Int×Bool:=match l[k]? with
 |some b=>upB b (Zjq f k) (upA b s)
 |none=>s
def Zcq (l:List Bd)(f r:List Int):Nat->List Int×Bool
 |0=>(r,false)
 |k+1=>ZkC l f k (Zcq l f r k)
def Zb9 (l:List Bd)(f:List Int)(n:Nat):Nat->List Int
 |0=>List.replicate n 0
 |k+1=>(Zcq l f (Zb9 l f n k) l.length).1
def Zge (l:List Bd)(f:List Int)(n:Nat):Nat->Option Nat
 |0=>none
 |k+1=>match Zge l f n k with|some i=>some i|none=>if(Zcq l f (Zb9 l f n k) l.length).2 then none else some k
def Zh7 (g:Net)(f:List Int):List Int×Bool:=match Zge g.2 f g.1.toNat (g.1.toNat+2)with
 |some k=>(Zb9 g.2 f g.1.toNat (k+1),true)
 |none=>([],false)
theorem ZFk (b:Bd)(s:List Int×Bool):(upA b s).1.length=s.1.length:=by
 unfold upA;split<;>simp
theorem ZFm (b:Bd)(t:Bool)(s:List Int×Bool):(upB b t s).1.length=s.1.length:=by
 unfold upB;split<;>simp
theorem ZEC (l:List Bd)(f:List Int)(k:Nat)(s:List Int×Bool):(ZkC l f k s).1.length=s.1.length:=by
 unfold ZkC;split
 ·rw[ZFm,ZFk]
 ·rfl
theorem ZoR (l:List Bd)(f r:List Int):∀k,(Zcq l f r k).1.length=r.length
 |0=>rfl
 |k+1=>by rw[Zcq,ZEC,ZoR l f r k]
theorem Zr2 (l:List Bd)(f:List Int)(n:Nat):∀k,(Zb9 l f n k).length=n
 |0=>by simp[Zb9]
 |k+1=>by rw[Zb9,ZoR,Zr2 l f n k]
def Zcd (r:List Int)(m:Int):Prop:=∀v:Int,-m<=at0 r v/\at0 r v<=m
theorem ZhM (r:List Int)(i:Nat)(x v:Int)(hv:0<=v):at0 (r.set i x) v=if v=i/\i<r.length then x else at0 r v:=by
 simp only[at0,qL];by_cases h:i=v.toNat
 ·subst h;by_cases h2:v.toNat<r.length
  ·rw[if_pos rfl,if_pos h2,if_pos (by omega)];rfl
  ·rw[if_pos rfl,if_neg h2,if_neg (by omega),uN (by omega)]
 ·rw[if_neg h,if_neg (by omega)]
theorem ZwH (r:List Int)(v:Int)(hv:v<0):at0 r v=at0 r 0:=by
 rw[at0,at0,show v.toNat=0 by omega];rfl
theorem Zpw {r:List Int}{m:Int}{i:Nat}{x:Int}(h:Zcd r m)(h1:-m<=x)(h2:x<=m):Zcd (r.set i x) m:=by
 have key:∀v:Int,0<=v->-m<=at0 (r.set i x) v/\at0 (r.set i x) v<=m:=by
  intro v hv;rw[ZhM _ _ _ _ hv];split
  ·exact⟨h1,h2⟩
  ·exact h v
 intro v;rcases(show v<0\/0<=v by omega)with hv|hv
 ·rw[ZwH _ _ hv];exact key 0 (qX _)
 ·exact key v hv
theorem Zgg {r:List Int}{m m':Int}(h:Zcd r m)(hm:m<=m'):Zcd r m':=λ v=>by have:=h v;omega
def Zn0 (l:List Bd):Prop:=∀(k:Nat) b,l[k]? =some b->-16777216<=b.2.2.1/\b.2.2.1<=16777216
theorem ZFj {b:Bd}{s:List Int×Bool}{m:Int}(h:Zcd s.1 m)(hb:-16777216<=b.2.2.1/\b.2.2.1<=16777216):Zcd (upA b s).1 (m+16777216):=by
 unfold upA;split
 ·have h1:=h b.1;exact Zpw (Zgg h (by omega)) (by omega) (by omega)
 ·exact Zgg h (by omega)
theorem ZFl {b:Bd}{t:Bool}{s:List Int×Bool}{m:Int}(h:Zcd s.1 m)(hb:-16777216<=b.2.2.1/\b.2.2.1<=16777216):Zcd (upB b t s).1 (m+16777216):=by
 unfold upB;split
 ·have h1:=h b.2.1;exact Zpw (Zgg h (by omega)) (by omega) (by omega)
 ·exact Zgg h (by omega)
theorem ZoQ {l:List Bd}{f r:List Int}{m:Int}(hl:Zn0 l)(h:Zcd r m):∀k:Nat,Zcd (Zcq l f r k).1 (m+33554432*k)
 |0=>Zgg h (by omega)
 |k+1=>by
  have ih:=ZoQ (f:=f) hl h k;rw[Zcq,ZkC];cases hb:l[k]? with
  |none=>exact Zgg ih (by omega)
  |some b=>
   have:=hl k b hb;exact Zgg (ZFl (ZFj ih this) this) (by omega)
theorem Zr1 {l:List Bd}{f:List Int}{n:Nat}(hl:Zn0 l)(hm:l.length<=4096):∀k:Nat,Zcd (Zb9 l f n k) (137438953472*k)
 |0=>by
  intro v;have:at0 (Zb9 l f n 0) v=0:=by
   simp only[at0,Zb9,gH];split<;>rfl
  rw[this];omega
 |k+1=>by
  rw[Zb9];exact Zgg (ZoQ hl (Zr1 hl hm k) l.length) (by omega)
theorem ZEH {l:List Bd}{f:List Int}{n m k:Nat}(hk:k<m)(h1:Zge l f n k=none)(h2:(Zcq l f (Zb9 l f n k) l.length).2=false):Zge l f n m=some k:=by
 induction m with
 |zero=>omega
 |succ m ih=>
  rcases yY.1 hk with h|rfl
  ·simp[Zge,ih h]
  ·simp[Zge,h1,h2]
theorem ZEI {l:List Bd}{f:List Int}{n k:Nat}(h1:Zge l f n k=none)(h2:(Zcq l f (Zb9 l f n k) l.length).2=true):Zge l f n (k+1)=none:=by simp[Zge,h1,h2]
theorem ZaG {r:List Int}{i:Nat}(h:i<r.length):r[i]? =some (at0 r i):=by
 obtain⟨x,hx⟩:=Zac h;rw[at0,uM,hx];rfl
theorem ZFn {b:Bd}{t:Bool}{s:List Int×Bool}{i j:Nat}(hi:b.1=i)(hj:b.2.1=j)(hij:i≠j)(hjl:j<s.1.length)(h:at0 s.1 j<at0 s.1 i+b.2.2.1):
  upB b t (upA b s)=(s.1.set j (at0 s.1 i+b.2.2.1),true):=by
 have e:upA b s=(s.1.set j (at0 s.1 i+b.2.2.1),true):=by rw[upA,hi,hj,if_pos h,uM]
 have e1:=ZhM s.1 j (at0 s.1 i+b.2.2.1) i (by omega);rw[if_neg (by omega)]at e1;have e2:=ZhM s.1 j (at0 s.1 i+b.2.2.1) j (by omega);rw[if_pos ⟨rfl,hjl⟩]at e2;rw[e,upB,hi,hj];dsimp only;rw[e1,e2,if_neg];simp only[uL,uF];omega
theorem ZFo {b:Bd}{t:Bool}{s:List Int×Bool}{i j:Nat}(hi:b.1=i)(hj:b.2.1=j)(h:¬at0 s.1 j<at0 s.1 i+b.2.2.1)(ht:t=true)(h2:at0 s.1 i<at0 s.1 j-b.2.2.1):
  upB b t (upA b s)=(s.1.set i (at0 s.1 j-b.2.2.1),true):=by
 have e:upA b s=s:=by rw[upA,hi,hj,if_neg h]
 rw[e,upB,hi,hj,if_pos (by simp[ht,h2]),uM]
theorem Zvr {b:Bd}{t:Bool}{s:List Int×Bool}{i j:Nat}(hi:b.1=i)(hj:b.2.1=j)(h:¬at0 s.1 j<at0 s.1 i+b.2.2.1)(h2:t=false\/¬at0 s.1 i<at0 s.1 j-b.2.2.1):
  upB b t (upA b s)=s:=by
 have e:upA b s=s:=by rw[upA,hi,hj,if_neg h]
 rw[e,upB,hi,hj,if_neg];rcases h2 with h2|h2<;>simp[h2]
theorem ZpH (g:Net)(f:List Int)(hg:nOk g=true)(hfl:f.length<=1000000):Zaa Tryz.prog 134 [nD g,Zab f] (.tup [Zab (Zh7 g f).1, .bool (Zh7 g f).2]):=by
 obtain⟨h1,h2,h3,h4⟩:=Zic hg;obtain⟨m,l⟩:=g;dsimp only at h1 h2 h3 h4;obtain⟨n,rfl⟩:∃n:Nat,m=n:=⟨m.toNat,by omega⟩;have hlo:Zn0 l:=λ k b hb=>by have:=h4 k b hb;omega
 refine kE Tryz.func134 ?_;intro hat B X w0;refine kw1 (kow (Nat.beq 13) (b:=true)) kc0 kc0 ?_;refine Zaf (λ(k:Nat)=>k<=n+2/\Zge l f n k=none) (λ k=>[(1, .d (Zab f)),(2, .ptr 2 0 0 0),(6, .ref 13 1 0 n n),(7, .int k)]) (λ k=>[(2, .cells [.int n, .d (Zcn l)]),(13, .row 1 ((Zb9 l f n k).map D.int))]) (λ k=>n+2-k) 0 ?_ ?_ ?_
 ·exact⟨by omega,rfl⟩
 ·exact kN (kc2 @Zb9.eq_1 @kW.{0,0}) []
 ·rintro k ⟨hk,hstill⟩;have hwi:=Zr1 (f:=f) (n:=n) hlo h3 k;rcases uE k (n+2)with hlt|hge
  ·refine kw1 kO kc0 kc0 ?_;refine Zaf (λ(i:Nat)=>i<=l.length) (λ i=>[(1, .d (Zab f)),(2, .ptr 2 0 0 0),(6, .ref 13 1 0 n n),(7, .int k),(8, .bool (Zcq l f (Zb9 l f n k) i).2),(9, .int i)]) (λ i=>[(2, .cells [.int n, .d (Zcn l)]),(13, .row 1 ((Zcq l f (Zb9 l f n k) i).1.map D.int))]) (λ i=>l.length-i) 0 ?_ ?_ ?_
   ·exact uH _
   ·exact kN (kc1 @Zcq.eq_1) []
   ·intro i hi;have hlen:(Zcq l f (Zb9 l f n k) i).1.length=n:=by rw[ZoR,Zr2]
    have hw:=Zgg (m':=562949953421312) (ZoQ (f:=f) hlo hwi i) (by omega);rcases uE i l.length with hil|hig
    ·obtain⟨b,hb⟩:=Zac hil;have hbi:=h4 i b hb;have hru:Zcq l f (Zb9 l f n k) (i+1)=upB b (Zjq f i) (upA b (Zcq l f (Zb9 l f n k) i)):=by simp only[Zcq,ZkC,hb]
     generalize Zcq l f (Zb9 l f n k) i=s at hlen hw hru|-;obtain⟨p,hp⟩:∃p:Nat,b.1=p:=⟨b.1.toNat,by omega⟩;obtain⟨q,hq⟩:∃q:Nat,b.2.1=q:=⟨b.2.1.toNat,by omega⟩;have gp:=ZaG (r:=s.1) (i:=p) (by omega);have gq:=ZaG (r:=s.1) (i:=q) (by omega);have wp:=hw p;have wq:=hw q;have hpq:q≠p:=by omega
     have t1:∀x,((List.map D.int s.1).set q x)[p]? =some (D.int (at0 s.1 p)):=λ x=>by
      rw[jJ hpq,uI,gp];rfl
     have t2:∀x,((List.map D.int s.1).set q x)[q]? =some x:=λ x=>gQ (by rw[uC];omega)
     rcases gZ (at0 s.1 q<at0 s.1 p+b.2.2.1)with c1|c1
     ·rw[ZFn hp hq (by omega) (by omega) c1]at hru;rcases uE i f.length with hif|hif
      ·obtain⟨x,hx⟩:=Zac hif;refine kw kO (kc8 hb hx hp hq gp gq t1 (kc3 t2 hlen @yP.{0})) kc0 ?_
       repeat' first|exact True.intro|refine Bn.mk ?_ ?_|intro hc
       all_goals
        refine⟨i+1,?_,kN (kc2 hru @yZ.{0,0}) [],?_⟩
        ·omega
        ·omega
      ·refine kw1 kO (kc8 hb hp hq gp gq t1 t2 (kc2 hlen @yP.{0})) kc0 ?_
       all_goals
        refine⟨i+1,?_,kN (kc2 hru @yZ.{0,0}) [],?_⟩
        ·omega
        ·omega
     ·rcases uE i f.length with hif|hif
      ·obtain⟨x,hx⟩:=Zac hif;have ht:Zjq f i=decide (0<x):=by rw[Zjq,hx]
       rw[ht]at hru;rcases gZ (0<x/\at0 s.1 p<at0 s.1 q-b.2.2.1)with c2|c2
       ·rw[ZFo hp hq c1 (by simp[c2.1]) c2.2]at hru;refine kw1 kO (kc8 hb hx hp hq gp gq t1 (kc3 t2 hlen @yP.{0})) kc0 ?_
        all_goals
         refine⟨i+1,?_,kN (kc2 hru @yZ.{0,0}) [],?_⟩
         ·omega
         ·omega
       ·rw[Zvr hp hq c1 (by rw[qC];omega)]at hru;refine kw kO (kc8 hb hx hp hq gp gq t1 (kc3 t2 hlen @yP.{0})) kc0 ?_
        repeat' first|exact True.intro|refine Bn.mk ?_ ?_|intro hc
        all_goals
         refine⟨i+1,?_,kN (kc2 hru @yZ.{0,0}) [],?_⟩
         ·omega
         ·omega
      ·have ht:Zjq f i=false:=by rw[Zjq,uN hif]
       rw[ht,Zvr hp hq c1 (.inl rfl)]at hru;refine kw1 kO (kc8 hb hp hq gp gq t1 t2 (kc2 hlen @yP.{0})) kc0 ?_
       all_goals
        refine⟨i+1,?_,kN (kc2 hru @yZ.{0,0}) [],?_⟩
        ·omega
        ·omega
    ·have:i=l.length:=by omega
     subst this;rcases hch:(Zcq l f (Zb9 l f n k) l.length).2 with _|_
     ·refine kw1 kO kc0 kc0 ?_;have e:Zh7 (n,l) f=(Zb9 l f n (k+1),true):=by
       rw[Zh7,uM,ZEH hlt hstill hch]
      rw[e,Zb9];exact⟨_,rfl,ZbF (o:=13) rfl rfl (by simp[hlen]) (uD (by simp[hlen])),Zah rfl,trivial⟩
     ·refine kw1 kO kc0 kc0 ?_;refine⟨k+1,?_,kN (kc1 @Zb9.eq_1) [],?_⟩
      ·exact⟨by omega,ZEI hstill hch⟩
      ·omega
  ·refine kw1 kO kc0 kc0 ?_;have:k=n+2:=by omega
   subst this;have e:Zh7 (n,l) f=([],false):=by rw[Zh7,uM,hstill]
   rw[e];exact⟨_,rfl,Zcm rfl,Zah rfl,trivial⟩
def topN (a b:List Int):Nat->Int
 |0=>0
 |k+1=>max (max (topN a b k) (at0 a k)) (at0 b k)
def halfAt (a b:List Int)(t:Int)(v:Nat):Int:=(at0 a v+t-at0 b v)/2
def ZbA (h:Nat->Int):Nat->Int
 |0=>0
 |k+1=>if k=0\/h k<ZbA h k then h k else ZbA h k
def midF (a b:List Int):List Int:=
 let t:=topN a b a.length
 (List.range a.length).map λ v=>halfAt a b t v-ZbA (halfAt a b t) a.length
def fromTo (a:List Int)(m:Int):Prop:=∀v:Nat,0<=at0 a v/\at0 a v<=m
theorem Zpm {a b:List Int}{m:Int}(ha:fromTo a m)(hb:fromTo b m):∀k,0<=topN a b k/\topN a b k<=m
 |0=>by have:=ha 0;simp only[topN];omega
 |k+1=>by have:=Zpm ha hb k;have:=ha k;have:=hb k;simp only[topN];omega
theorem ZE0 {a b:List Int}{j k:Nat}(h:j<=k):topN a b j<=topN a b k:=by
 induction k with
 |zero=>rw[show j=0 by omega];exact qX _
 |succ k ih=>
  rcases uE j (k+1)with h1|h1
  ·have:=ih (by omega);simp only[topN];omega
  ·rw[show j=k+1 by omega];exact qX _
theorem Zvk {a b:List Int}{j k:Nat}(h:j<k):at0 a j<=topN a b k/\at0 b j<=topN a b k:=by
 have h1:=ZE0 (a:=a) (b:=b) (show j+1<=k by omega);simp only[topN]at h1;omega
theorem ZnK {a b:List Int}{t m:Int}{v:Nat}(ha:fromTo a m)(hb:fromTo b m)(ht:0<=t/\t<=m):-m<=halfAt a b t v/\halfAt a b t v<=m:=by
 have:=ha v;have:=hb v;rw[halfAt];omega
theorem Zsy {h:Nat->Int}{m:Int}(hm:0<=m)(hh:∀v,-m<=h v/\h v<=m):∀k,-m<=ZbA h k/\ZbA h k<=m
 |0=>by simp only[ZbA];omega
 |k+1=>by
  have:=Zsy hm hh k;have:=hh k;simp only[ZbA];split<;>omega
def Zb1 (h:Nat->Int)(k:Nat):List Int:=(List.range k).map h
theorem Zfz (h:Nat->Int)(k:Nat):(Zb1 h k).length=k:=by simp[Zb1]
theorem Zga {h:Nat->Int}{k u:Nat}(hu:u<k):(Zb1 h k)[u]? =some (h u):=by simp[Zb1,hu]
def ZeR (h g:Nat->Int)(n k:Nat):List Int:=(List.range n).map λ u=>if u<k then g u else h u
theorem Zmq (h g:Nat->Int)(n k:Nat):(ZeR h g n k).length=n:=by simp[ZeR]
theorem Zpp {h g:Nat->Int}{n k u:Nat}(hu:u<n):(ZeR h g n k)[u]? =some (if u<k then g u else h u):=by simp[ZeR,hu]
theorem ZE6 (h g:Nat->Int)(n:Nat):ZeR h g n 0=Zb1 h n:=by simp[ZeR,Zb1]
theorem ZE4 (h g:Nat->Int)(n:Nat):ZeR h g n n=Zb1 g n:=by
 simp only[ZeR,Zb1];refine yM λ u hu=>?_
 rw[if_pos (uZ.1 hu)]
theorem ZE5 {h g:Nat->Int}{n k:Nat}(hk:k<n):(ZeR h g n k).set k (g k)=ZeR h g n (k+1):=by
 refine qA λ u=>?_
 by_cases hu:u<n
 ·rw[Zpp hu,qL,Zpp hu,Zmq];by_cases c:k=u
  ·subst c;rw[if_pos rfl,if_pos hk,if_pos (by omega)]
  ·rw[if_neg c];by_cases c2:u<k
   ·rw[if_pos c2,if_pos (by omega)]
   ·rw[if_neg c2,if_neg (by omega)]
 ·rw[uN (by rw[yP,Zmq];omega),uN (by rw[Zmq];omega)]
end Go.Proofs.YtjjbhjnpeenbkaaGreatDoor.Sx
namespace Go.Proofs.YtjjbhjnpeenbkaaGreatDoor.Sx
open Go Go.PS Go.Proofs
set_option maxRecDepth 100000
attribute [local irreducible] Zad wpG Zaa Zag
abbrev Stp :=Int×Int×Int×Bool
abbrev stD (s:Stp):D:= .ag [.int s.1, .int s.2.1, .int s.2.2.1, .bool s.2.2.2]
def Zip (l:List Bd)(f:List Int)(v k:Nat):List Stp:=match l[k]? with
 |some b=>(if b.1=v then[(b.2.1,b.2.2.1,(k:Int),false)]else[])++(if 0<at0 f k/\b.2.1=v then[(b.1,-b.2.2.1,(k:Int),true)]else[])
 |none=>[]
def Zfi (l:List Bd)(f:List Int)(v:Nat):Nat->List Stp:=Za2 (Zip l f v)
def ZdG (l:List Bd)(f:List Int)(k v:Nat):List D:=(Zfi l f v k).map stD
abbrev Zjn (n:Nat)(l:List Bd)(f:List Int):List D:=(List.range n).map λ v=> .sl (ZdG l f l.length v)
theorem ZEE {l:List Bd}{f:List Int}{k:Nat}{b:Bd}{p q:Nat}(hb:l[k]? =some b)(hp:b.1=p)(hq:b.2.1=q)(hpq:p≠q)(v:Nat):
  ZdG l f (k+1) v=if v=p then ZdG l f k v++[stD (q,b.2.2.1,k,false)]else if v=q/\0<at0 f k then ZdG l f k v++[stD (p,-b.2.2.1,k,true)]else ZdG l f k v:=by
 simp only[ZdG,Zfi,Za2,Zip,hb,hp,hq,uQ];by_cases h1:v=p
 ·subst h1;rw[if_pos rfl,if_neg (by omega),if_pos rfl];simp
 ·rw[if_neg (by omega),if_neg h1];by_cases h2:v=q/\0<at0 f k
  ·rw[if_pos ⟨h2.2,by omega⟩,if_pos h2];simp
  ·rw[if_neg (by omega),if_neg h2];simp
theorem Zmk (l:List Bd)(f:List Int)(v:Nat):∀k,(ZdG l f k v).length<=2*k
 |0=>by simp[ZdG,Zfi,Za2]
 |k+1=>by
  have:=Zmk l f v k;simp only[ZdG,Zfi,Za2,uQ,uG,uC]at this|-;have:(Zip l f v k).length<=2:=by
   rw[Zip];split
   ·split<;>split<;>simp
   ·simp
  omega
theorem ZEG (n:Nat)(l:List Bd)(f:List Int)(hn:n<=2048)(hl:l.length<=4096)(hfl:f.length=l.length)
  (hb:∀(k:Nat) b,l[k]? =some b->0<=b.1/\b.1<n/\0<=b.2.1/\b.2.1<n/\b.1≠b.2.1/\-16777216<=b.2.2.1/\b.2.2.1<=16777216):
  Zaa Tryz.prog 211 [pD n l f] (.sl (Zjn n l f)):=by
 refine kE Tryz.func211 ?_;intro hat B X w0;refine kw1 (kow (λ s=>(Nat.beq 11 s).or ((Nat.beq 37 s).or (Nat.beq 63 s))) (b:=true)) kc0 kc0 ?_;refine Zao _ (ZjO 1 11 4 n rfl (λ i hi=>by simp(disch:=omega) only[go_sem,simprocAttr,Zkj,Zes]) (by decide) (by decide)) ?_;refine Zfd (λ(k:Nat)=>k<=l.length) (λ k=>[(0, .d (pD n l f)),(3, .ref 11 1 0 n n),(16, .d (Zcn l)),(17, .int l.length),(18, .int k)]) (λ k=>[⟨1,11,4,n,ZdG l f k⟩]) (λ k=>[]) (λ k=>l.length-k) 0 ?_ ?_ ?_
 ·exact uH _
 ·refine kF kc0 [] [] ?_
  repeat' first|exact fmn|refine fmc ⟨?_,?_⟩
  all_goals refine⟨_,(by first|rfl|(simp(disch:=omega) only[go_sem,simprocAttr,ZdG,Zfi,Za2];done)|(simp(disch:=omega) only[go_sem,simprocAttr,ZdG,Zfi,Za2];rfl)),λ i hi=>?_⟩
  all_goals dsimp only at hi|-
  all_goals try (exfalso;omega)
  all_goals try (simp(disch:=omega) only[go_sem,simprocAttr,ZdG,Zfi,Za2,Zd8,Zeb];done)
 ·intro k hk;rcases uE k l.length with hlt|hge
  ·obtain⟨b,hbk⟩:=Zac hlt;have hbi:=hb k b hbk;obtain⟨p,hp⟩:∃p:Nat,b.1=p:=⟨b.1.toNat,by omega⟩;obtain⟨q,hq⟩:∃q:Nat,b.2.1=q:=⟨b.2.1.toNat,by omega⟩;have hpq:p≠q:=by omega
   have hqp:q≠p:=by omega
   have hpn:p<n:=by omega
   have hqn:q<n:=by omega
   have gf:=ZaG (r:=f) (i:=k) (by omega);have hsu:=ZEE (f:=f) hbk hp hq hpq;have e1:=Zmk l f p k;have e2:=Zmk l f q k;refine Zao _ (ZfT _ _ [11] 11 p 900 1 4 n (by first|rfl|(simp(disch:=omega) only[go_sem,simprocAttr];done)|(simp(disch:=omega) only[go_sem,simprocAttr];rfl)) (by first|(simp(disch:=omega) only[go_sem,simprocAttr];done)|(simp(disch:=omega) only[go_sem,simprocAttr];rfl)) (by first|(simp(disch:=omega) only[go_sem,simprocAttr];done)|(simp(disch:=omega) only[go_sem,simprocAttr];rfl)) (λ i hi hne=>by simp(disch:=omega) only[go_sem,simprocAttr,hne];(repeat' split)<;>exact .ref _ _ _ _ _ ⟨by simp(disch:=omega) only[go_sem,simprocAttr,hne],by simp(disch:=omega) only[go_sem,simprocAttr,hne]⟩) (by(repeat' first|refine ZfJ ?_|exact ZfK (ids:=[11]) rfl rfl (yA rfl)|refine ZfI ?_|refine ZfL ?_|refine ZfG ?_|refine ZfM ?_|refine ZfN ?_|refine ZfH (by dsimp only;omega) (by dsimp only;omega) (by omega) (by omega) (yA rfl) ?_);done) rfl rfl rfl) ?_;refine Zao _ (ZfT _ _ [11,900] 11 q 901 1 4 n (by first|rfl|(simp(disch:=omega) only[go_sem,simprocAttr,hpq,hqp];done)|(simp(disch:=omega) only[go_sem,simprocAttr,hpq,hqp];rfl)) (by first|(simp(disch:=omega) only[go_sem,simprocAttr,hpq,hqp];done)|(simp(disch:=omega) only[go_sem,simprocAttr,hpq,hqp];rfl)) (by first|(simp(disch:=omega) only[go_sem,simprocAttr,hpq,hqp];done)|(simp(disch:=omega) only[go_sem,simprocAttr,hpq,hqp];rfl)) (λ i hi hne=>by simp(disch:=omega) only[go_sem,simprocAttr,hne,hpq,hqp];(repeat' split)<;>exact .ref _ _ _ _ _ ⟨by simp(disch:=omega) only[go_sem,simprocAttr,hne,hpq,hqp],by simp(disch:=omega) only[go_sem,simprocAttr,hne,hpq,hqp]⟩) (by(repeat' first|refine ZfJ ?_|exact ZfK (ids:=[11,900]) rfl rfl (yA rfl)|refine ZfI ?_|refine ZfL ?_|refine ZfG ?_|refine ZfM ?_|refine ZfN ?_|refine ZfH (by dsimp only;omega) (by dsimp only;omega) (by omega) (by omega) (yA rfl) ?_);done) rfl rfl rfl) ?_;refine kw (kow (λ s=>(Nat.beq 11 s).or ((Nat.beq 37 s).or (Nat.beq 63 s))) (b:=true)) (kc6 hbk hp hq gf hpq hqp) kc0 ?_
   repeat' first|exact True.intro|refine Bn.mk ?_ ?_|intro hc
   ·refine⟨k+1,?_,kF kc0 [(fid 1 p,38),(fid 1 q,64)] [] ?_,?_⟩
    ·omega
    ·repeat' first|exact fmn|refine fmc ⟨?_,?_⟩
     all_goals refine⟨_,(by first|rfl|(simp(disch:=omega) only[go_sem,simprocAttr,hsu,hpq,hqp,yE,uG,yB,uY,hc];done)|(simp(disch:=omega) only[go_sem,simprocAttr,hsu,hpq,hqp,yE,uG,yB,uY,hc];rfl)),λ i hi=>?_⟩
     all_goals dsimp only at hi|-
     all_goals rcases gZ (i=p)with rfl|hi0
     all_goals rcases gZ (i=q)with rfl|hi1
     all_goals try (exfalso;omega)
     all_goals try (simp(disch:=omega) only[go_sem,simprocAttr,hsu,hpq,hqp,yE,uG,yB,uY,hc,Zd8,Zeb];done)
     all_goals try (simp(disch:=omega) only[go_sem,simprocAttr,hsu,hpq,hqp,yE,uG,yB,uY,hc,hi0,Zd8,Zeb];done)
     all_goals try (simp(disch:=omega) only[go_sem,simprocAttr,hsu,hpq,hqp,yE,uG,yB,uY,hc,hi1,Zd8,Zeb];done)
     all_goals try (simp(disch:=omega) only[go_sem,simprocAttr,hsu,hpq,hqp,yE,uG,yB,uY,hc,hi0,hi1,Zd8,Zeb];done)
    ·omega
   ·refine⟨k+1,?_,eF [(fid 1 p,38),(fid 1 q,901)] [] _ _ _ (by refine⟨?_,?_⟩<;>(repeat' first|exact fmn|refine fmc ⟨(by first|rfl|(simp(disch:=omega) only[go_sem,simprocAttr,inL];first|done|omega|(congr 1;done))),?_⟩);done) ?_,?_⟩
    ·omega
    ·exact kT2 (kc8 hsu hpq hqp @yE.{0} @uG.{0} @yB.{0} @uY.{0} hc) p q
    ·omega
  ·refine kw1 kP kc0 kc0 ?_;have:k=l.length:=by omega
   subst this;refine Zao _ (Zyg.1 (kG kc0 [] [] [(2, .ref 11 1 0 n n)] [⟨1,11,4,n,ZdG l f l.length⟩] [] ?_)) ?_
   ·exact kT0 kc0
   ·refine Zao _ (ZjP _ _ _ _ ⟨Zb0 rfl,Zb0 rfl,(by(repeat' first|exact fmn|refine fmc ⟨⟨yA rfl,yA rfl,by dsimp only;omega⟩,?_⟩);done)⟩ rfl [11] rfl rfl rfl rfl) ?_;refine kw1 kO kc0 kc0 ?_;exact ZbF (o:=11) rfl rfl (by simp) (uD (by simp))
end Go.Proofs.YtjjbhjnpeenbkaaGreatDoor.Sx
namespace Go.Proofs.YtjjbhjnpeenbkaaGreatDoor.Sx
open Go Go.PS Go.Proofs
abbrev Way :=Int×Int×Stp×Bool
abbrev Zms (w:Way):D:= .ag [.int w.1, .int w.2.1, .int w.2.2.1.1, .int w.2.2.1.2.1, .int w.2.2.1.2.2.1, .bool w.2.2.1.2.2.2, .bool w.2.2.2]
def Zju :Way:=(0,0,(0,0,0,false),false)
def Zep :Way:=(-1152921504606846976,0,(0,0,0,false),false)
def ZdH :Way:=(0,0,(0,0,0,false),true)
abbrev LS :=List Way×List Bool×List Int
def wAt (W:List Way)(v:Int):Way:=(W[v.toNat]?).getD Zep
def bAt (B:List Bool)(v:Int):Bool:=(B[v.toNat]?).getD true
def Zbi (v:Int)(σ:LS)(s:Stp):LS:=
 if(wAt σ.1 s.1).1<(wAt σ.1 v).1+s.2.1 then
  (σ.1.set s.1.toNat ((wAt σ.1 v).1+s.2.1,v,s,false),if bAt σ.2.1 s.1 then σ.2 else(σ.2.1.set s.1.toNat true,σ.2.2++[s.1]))
 else σ
def Zbd (L:List Stp)(v:Int)(σ:LS)(i:Nat):LS:=(L.take i).foldl (Zbi v) (σ.1,σ.2.1.set v.toNat false,σ.2.2)
def ZFB (ST:Nat->List Stp)(σ:LS)(v:Int):LS:=Zbd (ST v.toNat) v σ (ST v.toNat).length
def ZbB (ST:Nat->List Stp)(σ:LS)(j:Nat):LS:=(σ.2.2.take j).foldl (ZFB ST) (σ.1,σ.2.1,[])
def ZaC (ST:Nat->List Stp)(σ:LS):Nat->LS
 |0=>σ
 |k+1=>ZbB ST (ZaC ST σ k) (ZaC ST σ k).2.2.length
theorem Zlu {α β:Type}{f:β->α->β}{l:List α}{k:Nat}{x:α}(a:β)(h:l[k]? =some x):(l.take (k+1)).foldl f a=f ((l.take k).foldl f a) x:=by
 rw[ZaA h,Bw];rfl
theorem ZjZ {L:List Stp}{v:Int}{σ:LS}{i:Nat}{s:Stp}(h:L[i]? =some s):Zbd L v σ (i+1)=Zbi v (Zbd L v σ i) s:=Zlu _ h
theorem Zkc {ST:Nat->List Stp}{σ:LS}{j:Nat}{v:Int}(h:σ.2.2[j]? =some v):ZbB ST σ (j+1)=Zbd (ST v.toNat) v (ZbB ST σ j) (ST v.toNat).length:=Zlu _ h
def ZeV (n:Nat)(U:Int)(c:Nat)(σ:LS):Prop:=
 σ.1.length=n/\σ.2.1.length=n/\(∀x∈σ.2.2,0<=x/\x<(n:Int))/\(∀w∈σ.1,-1152921504606846976<=w.1/\w.1<=U)/\σ.2.2.length<=σ.2.1.count true+c
def ZhK (n:Nat)(v:Int)(L:List Stp):Prop:=∀s∈L,0<=s.1/\s.1<(n:Int)/\s.1≠v/\-16777216<=s.2.1/\s.2.1<=16777216
theorem ZxF (l:List Bool):∀v,l.count true<=(l.set v false).count true+1:=by
 induction l with
 |nil=>intro v;simp
 |cons b l ih=>
  intro v;cases v with
  |zero=>cases b<;>simp
  |succ v=>have:=ih v;cases b<;>simp<;>omega
theorem ZxG (l:List Bool):∀v,l[v]? =some false->(l.set v true).count true=l.count true+1:=by
 induction l with
 |nil=>intro v h;simp at h
 |cons b l ih=>
  intro v h;cases v with
  |zero=>simp at h;subst h;simp
  |succ v=>have:=ih v (by simpa using h);cases b<;>simp<;>omega
theorem Zeo {W:List Way}{v:Int}{n:Nat}(hW:W.length=n)(h1:0<=v)(h2:v<(n:Int)):W[v.toNat]? =some (wAt W v):=by
 obtain⟨x,hx⟩:=Zac (show v.toNat<W.length by omega);rw[wAt,hx];rfl
theorem ZmT {W:List Bool}{v:Int}{n:Nat}(hW:W.length=n)(h1:0<=v)(h2:v<(n:Int)):W[v.toNat]? =some (bAt W v):=by
 obtain⟨x,hx⟩:=Zac (show v.toNat<W.length by omega);rw[bAt,hx];rfl
theorem ZhE {W:List Way}{u v:Int}{x:Way}(h1:0<=u)(h2:0<=v)(h3:v.toNat<W.length):wAt (W.set v.toNat x) u=if u=v then x else wAt W u:=by
 rw[wAt,qL];by_cases h:u=v
 ·subst h;rw[if_pos rfl,if_pos h3,if_pos rfl];rfl
 ·rw[if_neg (by omega),if_neg h];rfl
theorem ZCx {n c:Nat}{U v:Int}{σ:LS}{s:Stp}(h:ZeV n (U+16777216) c σ)(hv:(wAt σ.1 v).1<=U)(h0:0<=v)(hs:0<=s.1/\s.1<(n:Int)/\s.1≠v/\-16777216<=s.2.1/\s.2.1<=16777216):
  ZeV n (U+16777216) c (Zbi v σ s)/\(wAt (Zbi v σ s).1 v).1<=U:=by
 obtain⟨g1,g2,g3,g4,g5⟩:=h;obtain⟨s1,s2,s3,s4,s5⟩:=hs;rw[Zbi];split
 ·rename_i hlt;have hold:=g4 _ (uA (Zeo g1 s1 s2));refine⟨⟨by simp[g1],?_,?_,?_,?_⟩,?_⟩
  ·split
   ·exact g2
   ·simp[g2]
  ·split
   ·exact g3
   ·intro x hx;rcases yK.1 hx with hx|hx
    ·exact g3 x hx
    ·rw[uS.1 hx];exact⟨s1,s2⟩
  ·intro w hw;rcases jQ hw with hw|rfl
   ·exact g4 w hw
   ·dsimp only;omega
  ·split
   ·exact g5
   ·rename_i hb;have hb:bAt σ.2.1 s.1=false:=by simpa using hb
    have:=ZxG σ.2.1 s.1.toNat (by rw[ZmT g2 s1 s2,hb]);dsimp only;rw[uG,this,yL];omega
  ·dsimp only;rw[ZhE h0 s1 (by omega),if_neg (by omega)];exact hv
 ·exact⟨⟨g1,g2,g3,g4,g5⟩,hv⟩
theorem ZyY {n c c':Nat}{U U':Int}{σ:LS}(h:ZeV n U c σ)(hU:U<=U')(hc:c<=c'):ZeV n U' c' σ:=by
 obtain⟨g1,g2,g3,g4,g5⟩:=h;exact⟨g1,g2,g3,λ w hw=>by have:=g4 w hw;omega,by omega⟩
theorem ZrS {n c:Nat}{U v:Int}{σ:LS}{L:List Stp}(h:ZeV n U c σ)(h0:0<=v)(hvn:v<(n:Int))(hL:ZhK n v L):
  ∀i,ZeV n (U+16777216) (c+1) (Zbd L v σ i)/\(wAt (Zbd L v σ i).1 v).1<=U:=by
 intro i
 induction i with
 |zero=>
  obtain⟨g1,g2,g3,g4,g5⟩:=h;have:=ZxF σ.2.1 v.toNat;exact⟨⟨g1,by simp[Zbd,g2],g3,λ w hw=>by have:=g4 w hw;omega,by simp only[Zbd,yX,Cw];omega⟩,(g4 _ (uA (Zeo g1 h0 hvn))).2⟩
 |succ i ih=>
  rcases uE i L.length with hi|hi
  ·obtain⟨s,hs⟩:=Zac hi;rw[ZjZ hs];exact ZCx ih.1 ih.2 h0 (hL s (uA hs))
  ·have:Zbd L v σ (i+1)=Zbd L v σ i:=by rw[Zbd,Zbd,uD (by omega),uD hi]
   rw[this];exact ih
theorem Zn6 {n c:Nat}{U:Int}{σ:LS}{ST:Nat->List Stp}(h:ZeV n U c σ)(hST:∀v:Nat,v<n->ZhK n v (ST v)):
  ∀j,j<=σ.2.2.length->ZeV n (U+16777216*j) j (ZbB ST σ j):=by
 intro j
 induction j with
 |zero=>intro _;obtain⟨g1,g2,g3,g4,g5⟩:=h;exact⟨g1,g2,by simp[ZbB],λ w hw=>by have:=g4 w hw;omega,by simp[ZbB]⟩
 |succ j ih=>
  intro hj;obtain⟨v,hv⟩:=Zac (show j<σ.2.2.length by omega);have hvb:=h.2.2.1 v (uA hv);rw[Zkc hv];refine ZyY (ZrS (ih (by omega)) hvb.1 hvb.2 (?_) _).1 (by omega) (uJ _);have:=hST v.toNat (by omega)
  rwa [show((v.toNat:Nat):Int)=v by omega]at this
theorem Zr4 {n:Nat}{σ:LS}{ST:Nat->List Stp}(hn:n<=2048)(h:ZeV n 0 σ.2.2.length σ)(hq:σ.2.2.length<=n)(hST:∀v:Nat,v<n->ZhK n v (ST v)):
  ∀k,k<=n+1->ZeV n (70437463654400*k) (ZaC ST σ k).2.2.length (ZaC ST σ k)/\(ZaC ST σ k).2.2.length<=n*(k+1):=by
 intro k
 induction k with
 |zero=>intro _;exact⟨by simpa[ZaC]using h,by simpa[ZaC]using hq⟩
 |succ k ih=>
  intro hk;obtain⟨h1,h2⟩:=ih (by omega);have h3:=Zn6 h1 hST (ZaC ST σ k).2.2.length (uJ _);have hqk:(ZaC ST σ k).2.2.length<=4198400:=by
   have:n*(k+1)<=2048*2050:=kZ hn (by omega);omega
  obtain⟨g1,g2,g3,g4,g5⟩:=h3;have hc:((ZbB ST (ZaC ST σ k) (ZaC ST σ k).2.2.length).2.1).count true<=n:=by rw[<-g2];exact List.count_le_length
  refine⟨⟨g1,g2,g3,λ w hw=>?_,by simp only[ZaC];omega⟩,?_⟩
  ·have:=g4 w hw;omega
  ·simp only[ZaC];have:n*(k+1+1)=n*(k+1)+n:=by rw[Nat.mul_succ]
   omega
def Zen (n:Nat)(st:List Int)(j:Nat):List Way:=(st.take j).foldl (λ W v=>W.set v.toNat ZdH) (List.replicate n Zep)
theorem ZuU {n:Nat}{st:List Int}{j:Nat}{v:Int}(h:st[j]? =some v):Zen n st (j+1)=(Zen n st j).set v.toNat ZdH:=Zlu _ h
theorem Zjm (n:Nat)(st:List Int):∀j,(Zen n st j).length=n:=by
 intro j;rw[Zen];generalize st.take j=l;have:∀(l:List Int) (W:List Way),(l.foldl (λ W v=>W.set v.toNat ZdH) W).length=W.length:=by
  intro l
  induction l with
  |nil=>intro W;rfl
  |cons v l ih=>intro W;rw[jF,ih];simp
 rw[this];simp
theorem ZEA (n:Nat)(st:List Int)(j:Nat):∀w∈Zen n st j,w=Zep\/w=ZdH:=by
 rw[Zen];generalize st.take j=l;have:∀(l:List Int) (W:List Way),(∀w∈W,w=Zep\/w=ZdH)->∀w∈l.foldl (λ W v=>W.set v.toNat ZdH) W,w=Zep\/w=ZdH:=by
  intro l
  induction l with
  |nil=>intro W h;exact h
  |cons v l ih=>
   intro W h;rw[jF];refine ih _ λ w hw=>?_
   rcases jQ hw with hw|rfl
   ·exact h w hw
   ·exact .inr rfl
 exact this l _ λ w hw=> .inl (Aa hw)
def Zax (n:Nat)(st:List Int):LS:=(Zen n st st.length,List.replicate n false,st)
theorem ZuV {n:Nat}{st:List Int}(hst:∀x∈st,0<=x/\x<(n:Int)):ZeV n 0 (Zax n st).2.2.length (Zax n st):=by
 refine⟨Zjm _ _ _,by simp[Zax],hst,λ w hw=>?_,by omega⟩;rcases ZEA _ _ _ w hw with rfl|rfl<;>simp[Zep,ZdH]
def ZiR (n:Nat)(ST:Nat->List Stp)(st:List Int):Option Nat:=Zb8 (λ k=>(ZaC ST (Zax n st) k).2.2.isEmpty) (n+2)
def Zcj (n:Nat)(ST:Nat->List Stp)(st:List Int):Option (List Way):=(ZiR n ST st).map λ k=>(ZaC ST (Zax n st) k).1
end Go.Proofs.YtjjbhjnpeenbkaaGreatDoor.Sx
