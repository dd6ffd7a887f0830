/- Stable sorting: exchanging two stretches of a row. -/
import Derived.Test.YtjjbhjnpeenbkaaGreatDoorTypes
import Derived.Test.YtjjbhjnpeenbkaaGreatDoorPSBd
import Derived.Test.YtjjbhjnpeenbkaaGreatDoorPSFam
import Derived.Test.YtjjbhjnpeenbkaaGreatDoorStE
set_option linter.unusedSimpArgs false
set_option linter.unusedVariables false
set_option maxHeartbeats 16000000
namespace Go.Proofs.YtjjbhjnpeenbkaaGreatDoor
open Go Go.PS Go.Proofs
set_option maxRecDepth 100000
attribute [local irreducible] ao wpG ah ax
abbrev elD (v:Nat->Int)(p:Nat->List D)(k:Nat):D:= .ag [.int (v k), .sl (p k)]
theorem HI {Z:Type}(A:List Z)(u w:Z)(C:List Z):(A++u::C).set A.length w=A++w::C:=by
 rw[Cu,if_neg (Nat.lt_irrefl _),jK];rfl
theorem Eu {Z:Type}(A:List Z)(u:Z)(C:List Z):(A++u::C)[A.length]? =some u:=by
 rw[qL (uI _),jK];rfl
theorem v8 {Z:Type}{l:List Z}{i:Nat}{u:Z}(h:l[i]? =some u):l.drop i=u::l.drop (i+1):=by
 obtain⟨Y,rfl⟩:=uB.1 h;exact qV Y
open Go.Stb
def oc (c:Nat->Nat->Int)(R:Nat->Nat->Prop)(s x:Nat):Prop:=c x s<0↔R x s
theorem J0 {c:Nat->Nat->Int}{R:Nat->Nat->Prop}{M:List Nat}(h:M.Pairwise (oc c R)){k x s:Nat}(Y:M[k]? =some x)(Z:s∈M.take k):oc c R s x:=by
 rw[<-gR k M]at h;exact(gP.1 h).2.2 s Z x (by rw[v8 Y];simp)
theorem NZ {M:List Nat}(h:M.Nodup){k x s:Nat}(Y:M[k]? =some x)(Z:s∈M.take k):s≠x:=by
 rw[<-gR k M,zC]at h;exact h.2.2 s Z x (by rw[v8 Y];simp)
theorem MT (v:Nat->Int)(p:Nat->List D)(g:Nat)(c:Nat->Nat->Int)(R:Nat->Nat->Prop)(hR:Ord R)(hcmp:∀j k,ah Tryz.prog g [elD v p j,elD v p k] (.int (c j k)))
  (P M Q T:List Nat)(hb:M.Pairwise (oc c R))(hnd:M.Nodup)(hT:T.Perm M)(hTs:T.Pairwise R)(N:Nat)(hN:P.length+M.length+Q.length=N)(hN1:N<=1000000)(a e:Int)(ha:a=P.length)(he:e=(P.length+M.length:Nat)):
  ax Tryz.prog 280 [.ref 1000 2 0 N N, .int a, .int e, .d (.fn g [])] [(1000, .row 2 ((P++M++Q).map (elD v p)))] (.tup []) [(1000, .row 2 ((P++T++Q).map (elD v p)))]:=by
 subst ha he;obtain⟨A,hA⟩:∃A,A=P.length:=⟨_,rfl⟩;rw[<-hA];refine kM Tryz.func280 ?_;intro B X w0;refine fc ?_;refine ac kO aa aa ?_;refine aq (λ(q:Nat×List Nat)=>match q with|(k,S)=>1<=k/\k<=M.length+1/\S.Pairwise R/\S.Perm (M.take k)) (λ(k,S)=>[(0, .ref 1000 2 0 N N),(1, .int A),(2, .int ((A+M.length:Nat):Int)),(3, .d (.fn g [])),(8, .int ((A+k:Nat):Int))]) (λ(k,S)=>[(1000, .row 2 ((P++S++M.drop k++Q).map (elD v p)))]) (λ(k,S)=>M.length+1-k) (1,M.take 1) ?_ ?_ ?_
 ·refine⟨uI _,xA,?_,Ch _⟩;rcases M with _|⟨x,M⟩
  ·exact List.Pairwise.nil
  ·exact zQ _ _
 ·have e0:P++M.take 1++M.drop 1++Q=P++M++Q:=by rw[qG P,gR]
  exact kN (av e0 @qQ @gN) []
 ·rintro⟨k,S⟩ ⟨hk1,hk2,H,K⟩;dsimp only at hk1 hk2 H K|-;have hSl:=K.length_eq;rw[yA]at hSl;rcases uD k M.length with hlt|hge
  ·obtain⟨x,hx⟩:=ak hlt;have hdr:=v8 hx;have hSx:∀s,s∈S->oc c R s x/\s≠x:=λ s hs=>⟨J0 hb hx (K.mem_iff.1 hs),NZ hnd hx (K.mem_iff.1 hs)⟩
   generalize G:M.drop (k+1)++Q=U at*;have hQl:U.length+k+1=M.length+Q.length:=by rw[<-G,uH,jR];omega
   refine ac kO aa aa ?_;refine aq (λ(q:List Nat×List Nat)=>match q with|(V,Z)=>V++Z=S/\(∀s,s∈Z->R x s)) (λ(V,Z)=>[(0, .ref 1000 2 0 N N),(1, .int A),(2, .int ((A+M.length:Nat):Int)),(3, .d (.fn g [])),(8, .int ((A+k:Nat):Int)),(9, .int ((A+V.length:Nat):Int))]) (λ(V,Z)=>[(1000, .row 2 ((P++V++x::(Z++U)).map (elD v p)))]) (λ(V,Z)=>V.length) (S,[]) ?_ ?_ ?_
   ·exact⟨yS _,λ s hs=>by cases hs⟩
   ·have e0:P++S++M.drop k++Q=P++S++x::U:=by rw[hdr,<-G];simp
    have e1:S.length=k:=xA;exact kN (av e0 e1 @gB.{0}) []
   ·rintro⟨V,Z⟩ ⟨O,C⟩;dsimp only at O C|-;have hl0:V.length+Z.length=k:=by
     have:=gL List.length O;rw[uH]at this;omega
    have b:V=[]\/(∃Y s,V=Y++[s]):=by
     rcases List.eq_nil_or_concat V with h|⟨l,z,h⟩
     ·exact .inl h
     ·exact .inr ⟨l,z,by rw[h,List.concat_eq_append]⟩
    have E:(∀s,s∈V->R s x)->(V++x::Z).Pairwise R/\(V++x::Z).Perm (M.take (k+1)):=λ h=>by
     refine⟨MP hR (by rw[O];exact H) h C,?_⟩;rw[aM hx];refine Bl.trans ?_;rw[O];exact(List.perm_append_comm (l₁:=[x]) (l₂:=S)).trans (K.append_right [x])
    have hrow:P++V++x::(Z++U)=P++(V++x::Z)++M.drop (k+1)++Q:=by rw[<-G];simp
    have hkk:((A+k:Nat):Int)+1=((A+(k+1):Nat):Int):=xA;rcases b with rfl|⟨Y,s,rfl⟩
    ·obtain⟨f1,f2⟩:=E (λ s hs=>by cases hs);have z0:A+([]:List Nat).length=A:=rfl;rw[z0];refine ac kO aa aa ?_;have hrow0:P++x::(Z++U)=P++x::Z++M.drop (k+1)++Q:=by rw[<-G];simp
     refine⟨(k+1,x::Z),?_,kN (ai @hrow0 hkk) [],?_⟩
     ·exact⟨xA,xA,f1,f2⟩
     ·dsimp only;omega
    ·obtain⟨hbk,hne⟩:=hSx s (by rw[<-O];simp);have h1:=hcmp x s;rw[uH,yO]at hl0;obtain⟨J,hJ⟩:∃J,J=A+Y.length:=⟨_,rfl⟩;have z0:A+(Y++[s]).length=J+1:=by rw[uH,yO];omega
     have g1:(P++(Y++[s])++x::(Z++U))[J+1]? =some x:=by
      rw[<-z0,hA,<-uH];exact Eu _ _ _
     have rw1:P++(Y++[s])++x::(Z++U)=(P++Y)++s::x::(Z++U):=xB;have hPJ:(P++Y).length=J:=by rw[uH];omega
     have g2:(P++(Y++[s])++x::(Z++U))[J]? =some s:=by rw[rw1,<-hPJ];exact Eu _ _ _
     have hln:(P++(Y++[s])++x::(Z++U)).length=N:=by
      simp only[uH,uV,uU];omega
     have hst:((P++(Y++[s])++x::(Z++U)).set (J+1) s).set J x=P++Y++x::(s::Z++U):=by
      have r1:(P++(Y++[s])++x::(Z++U)).set (J+1) s=(P++Y)++s::s::(Z++U):=by
       rw[<-z0,hA,<-uH,HI];simp
      rw[r1,<-hPJ,HI];simp
     have g3:((P++(Y++[s])++x::(Z++U)).set (J+1) s)[J]? =some s:=by
      rw[qF,if_neg xA,g2]
     rw[z0];rw[hrow]at*;generalize hLL:P++(Y++[s]++x::Z)++M.drop (k+1)++Q=LL at*;have g4:((LL.map (elD v p)).set (J+1) (elD v p s))[J]? =some (elD v p s):=by rw[<-yW,uJ,g3];rfl
     have hs2:((LL.map (elD v p)).set (J+1) (elD v p s)).set J (elD v p x)=(P++Y++x::(s::Z++U)).map (elD v p):=by rw[<-hst,yW,yW]
     have n1:(((J+1:Nat):Int)-1).toNat=J:=xA;have n2:(((J+1:Nat):Int)).toNat=J+1:=xA;have n3:((J+1:Nat):Int)-1=(J:Int):=xA;by_cases I:c x s<0
     ·refine ac kO (bj n1 n2 n3 g1 g2 hln I (av @yJ.{0} g4 hs2)) (ae h1) ?_;refine⟨(Y,s::Z),?_,kN (ai hs2 hJ) [],?_⟩
      ·dsimp only;exact⟨by rw[<-O];simp,λ z F=>by
        rcases yI.1 F with rfl|F
        ·exact hbk.1 I
        ·exact C z F⟩
      ·dsimp only;rw[uH,yO];omega
     ·have hsx:R s x:=by
       rcases hR.total s x hne with h|h
       ·exact h
       ·exact absurd (hbk.2 h) I
      have hS1s:(Y++[s]).Pairwise R:=by
       rw[<-O]at H;exact(gP.1 H).1
      obtain⟨f1,f2⟩:=E (λ z F=>by
       rcases yP.1 F with F|F
       ·exact hR.trans z s x ((gP.1 hS1s).2.2 z F s xB) hsx
       ·rw[uX.1 F];exact hsx)
      refine ac kO (bV n1 n2 n3 g1 g2 hln I) (ae h1) ?_;refine⟨(k+1,Y++[s]++x::Z),?_,kN (ai hLL hkk) [],?_⟩
      ·exact⟨xA,xA,f1,f2⟩
      ·dsimp only;omega
  ·have hS:S=T:=by
    rw[uE hge]at K;exact TH hR (K.trans hT.symm) H hTs
   subst hS;refine ac kO aa aa ?_;have e0:P++S++M.drop k++Q=P++S++Q:=by rw[List.drop_of_length_le hge,yS]
   refine⟨_,cI.1 (kN (L:=[]) (M:=[(1000, .row 2 ((P++S++Q).map (elD v p)))]) (ae e0) []),?_⟩;exact⟨⟨[],rfl,trivial⟩,fmc ⟨rfl,fmn⟩⟩
theorem SV (v:Nat->Int)(p:Nat->List D)(g:Nat)(c:Nat->Nat->Int)(R:Nat->Nat->Prop)(U:Ord R)(h:∀j k,ah Tryz.prog g [elD v p j,elD v p k] (.int (c j k)))
  (L T:List Nat)(Q:L.Pairwise (oc c R))(X:L.Nodup)(S:T.Perm L)(Y:T.Pairwise R)(V:L.length<=19):
  ax Tryz.prog 262 [.ref 1000 2 0 L.length L.length, .int L.length, .d (.fn g [])] [(1000, .row 2 (L.map (elD v p)))] (.tup []) [(1000, .row 2 (T.map (elD v p)))]:=by
 have Z:=MT v p g c R U h [] L [] T Q X S Y L.length xB xA 0 L.length rfl xB;rw[gB,yS,gB,yS]at Z;generalize L.length=N at*;refine kM Tryz.func262 ?_;intro B O K;refine fc ?_;refine ac kO aa aa ?_;refine aq (λ(k:Nat)=>k=0) (λ k=>[(0, .ref 1000 2 0 N N),(1, .int N),(2, .d (.fn g [])),(6, .int 20),(7, .int 0),(8, .int 20)]) (λ k=>[(1000, .row 2 (L.map (elD v p)))]) (λ k=>0) 0 ?_ ?_ ?_
 ·rfl
 ·exact kN aa []
 ·rintro k rfl;refine ac kO aa (ae (dM [] Z)) ?_;refine aq (λ(k:Nat)=>k=0) (λ k=>[(0, .ref 1000 2 0 N N),(1, .int N),(2, .d (.fn g [])),(6, .int 20)]) (λ k=>[(1000, .row 2 (T.map (elD v p)))]) (λ k=>0) 0 ?_ ?_ ?_
  ·rfl
  ·exact kN aa []
  ·rintro k rfl;refine ac kO aa aa ?_;refine⟨_,cI.1 (kN (L:=[]) (M:=[(1000, .row 2 (T.map (elD v p)))]) aa []),?_⟩;exact⟨⟨[],rfl,trivial⟩,fmc ⟨rfl,fmn⟩⟩
theorem Jt (v:Nat->Int)(p:Nat->List D)(g:Nat)(c:Nat->Nat->Int)(R:Nat->Nat->Prop)(U:Ord R)(h:∀j k,ah Tryz.prog g [elD v p j,elD v p k] (.int (c j k)))
  (L T:List Nat)(Q:L.Pairwise (oc c R))(X:L.Nodup)(S:T.Perm L)(Y:T.Pairwise R)(Z:L.length<=19):
  ax Tryz.prog 244 [.ref 1000 2 0 L.length L.length, .d (.fn g [])] [(1000, .row 2 (L.map (elD v p)))] (.tup []) [(1000, .row 2 (T.map (elD v p)))]:=by
 have V:=SV v p g c R U h L T Q X S Y Z;refine kM Tryz.func244 ?_;intro B O N;refine fc ?_;refine ac kO aa (ae (dM [] V)) ?_;refine⟨_,cI.1 (kN (L:=[]) (M:=[(1000, .row 2 (T.map (elD v p)))]) aa []),?_⟩;exact⟨⟨[],rfl,trivial⟩,fmc ⟨rfl,fmn⟩⟩
end Go.Proofs.YtjjbhjnpeenbkaaGreatDoor
namespace Go.Proofs.YtjjbhjnpeenbkaaGreatDoor
open Go Go.PS Go.Proofs
open Go.Stb
def nI (y:List Int)(v:Int)(x:Arc):List Int:=(if x.1=v/\0<=placeF y x.2 then[placeF y x.2]else[])++(if x.2=v/\0<=placeF y x.1 then[placeF y x.1]else[])
def bM (y:List Int)(Z:List Arc)(v:Int):List Int:=Z.flatMap (nI y v)
def dO (v u:Int)(k:Nat)(x:Arc):List Int:=if(x.1=u/\x.2=v)\/(x.1=v/\x.2=u)then[(k:Int)]else[]
def lm (y:List Int)(Z:List Arc)(v:Int):List Int:=(List.range y.length).flatMap λ k:Nat=>Z.flatMap (dO v (at0 y k) k)
theorem Po (y:List Int)(v:Int):-1<=placeF y v/\placeF y v<y.length:=by
 by_cases h:v∈y
 ·obtain⟨k,X⟩:=qA h;have Z:=xT y v;rw[uZ h,uG]at Z;refine⟨xA,?_⟩;rw[placeF];rw[placeF]at Z;cases Y:y.findIdx? (λ x=>decide (x=v))with
  |none=>rw[Y]at Z;simp[eh]at Z
  |some j=>
   have:=(jY.1 Y).1;simp only[eh];omega
 ·rw[oP h];omega
theorem Mr {y:List Int}(X:y.Nodup)(u:Int){n:Nat}(h:n<y.length):at0 y n=u↔placeF y u=n:=by
 have Z:=aK h;constructor
 ·intro e;rw[e]at Z;exact nH X Z
 ·intro e;have U:=xT y u;have V:u∈y:=by
   by_cases c:u∈y
   ·exact c
   ·rw[oP c]at e;omega
  obtain⟨k,Y⟩:=qA V;have:=nH X Y;have:k=n:=xA;subst this;rw[Z,yM]at Y;exact Y
theorem EF {y:List Int}(X:y.Nodup)(u:Int):∀n,n<=y.length->((List.range n).flatMap λ k:Nat=>if at0 y k=u then[(k:Int)]else[])=if 0<=placeF y u/\placeF y u<n then[placeF y u]else[]
 |0,_=>by
  rw[if_neg xA];rfl
 |n+1,h=>by
  rw[qE,zE,EF X u n xA,qM,kI,yS];have Y:=Mr X u (n:=n) xA;by_cases c:at0 y n=u
  ·have:=Y.1 c;rw[if_pos c,if_neg xA,if_pos xA,this];rfl
  ·rw[if_neg c,yS];have:placeF y u≠n:=λ e=>c (Y.2 e)
   by_cases Z:0<=placeF y u/\placeF y u<n
   ·rw[if_pos Z,if_pos xA]
   ·rw[if_neg Z,if_neg xA]
theorem EG {y:List Int}(Z:y.Nodup)(u:Int):((List.range y.length).flatMap λ k:Nat=>if at0 y k=u then[(k:Int)]else[])=if 0<=placeF y u then[placeF y u]else[]:=by
 rw[EF Z u _ (uI _)];have:=Po y u;by_cases c:0<=placeF y u
 ·rw[if_pos c,if_pos ⟨c,this.2⟩]
 ·rw[if_neg c,if_neg (λ h=>c h.1)]
theorem xn {y:List Int}(T:y.Nodup){Y:List Arc}(U:∀x,x∈Y->x.1≠x.2)(v:Int):(lm y Y v).Perm (bM y Y v):=by
 refine(Ek (λ(k:Nat) (x:Arc)=>dO v (at0 y k) k x) Y (List.range y.length)).trans ?_;have:∀Y:List Arc,(∀x,x∈Y->x.1≠x.2)->(Y.flatMap λ x=>(List.range y.length).flatMap λ k:Nat=>dO v (at0 y k) k x)=bM y Y v:=by
  intro Y U
  induction Y with
  |nil=>rfl
  |cons x Y Q=>
   rw[qM,bM,qM,Q λ z R=>U z (uP _ R)]
   congr 1
   have S:=U x xB;by_cases X:x.1=v
   ·have V:¬x.2=v:=λ e=>S (X.trans e.symm)
    have e:(λ k:Nat=>dO v (at0 y k) k x)=λ k:Nat=>if at0 y k=x.2 then[(k:Int)]else[]:=by
     funext k
     by_cases Z:at0 y k=x.2
     ·rw[dO,if_pos (.inr ⟨X,Z.symm⟩),if_pos Z]
     ·rw[dO,if_neg (λ h=>by
       rcases h with h|h
       ·exact V h.2
       ·exact Z h.2.symm),if_neg Z]
    rw[e,EG T,nI];by_cases Z:0<=placeF y x.2
    ·rw[if_pos Z,if_pos ⟨X,Z⟩,if_neg (λ h=>V h.1)];rfl
    ·rw[if_neg Z,if_neg (λ h=>Z h.2),if_neg (λ h=>V h.1)];rfl
   ·by_cases V:x.2=v
    ·have e:(λ k:Nat=>dO v (at0 y k) k x)=λ k:Nat=>if at0 y k=x.1 then[(k:Int)]else[]:=by
      funext k
      by_cases Z:at0 y k=x.1
      ·rw[dO,if_pos (.inl ⟨Z.symm,V⟩),if_pos Z]
      ·rw[dO,if_neg (λ h=>by
        rcases h with h|h
        ·exact Z h.1.symm
        ·exact X h.1),if_neg Z]
     rw[e,EG T,nI];by_cases Z:0<=placeF y x.1
     ·rw[if_pos Z,if_neg (λ h=>X h.1),if_pos ⟨V,Z⟩];rfl
     ·rw[if_neg Z,if_neg (λ h=>X h.1),if_neg (λ h=>Z h.2)];rfl
    ·have e:(λ k:Nat=>dO v (at0 y k) k x)=λ k:Nat=>[]:=by
      funext k
      rw[dO,if_neg (λ h=>by
       rcases h with h|h
       ·exact V h.2
       ·exact X h.1)]
     rw[e,nI,if_neg (λ h=>X h.1),if_neg (λ h=>V h.1)];simp
 rw[this Y U]
theorem Gt (y:List Int)(v:Int):∀Z:List Arc,(bM y Z v).length<=2*Z.length
 |[]=>by simp[bM]
 |x::Z=>by
  have Y:=Gt y v Z;have:(nI y v x).length<=2:=by
   rw[nI];split<;>split<;>simp
  rw[bM]at Y|-;rw[qM,uH,uV];omega
def fk (p:Nat->List Int)(T:List Nat)(k:Nat):Nat->Nat
 |0=>0
 |n+1=>if 0<cC (p ((T[n]?).getD 0)) (p k)then fk p T k n else n+1
def mw (p:Nat->List Int)(T:List Nat)(k:Nat):List Nat:=T.take (fk p T k T.length)++k::T.drop (fk p T k T.length)
def jw (p:Nat->List Int)(l:List Nat):List Nat:=l.foldl (mw p) []
theorem vZ (p:Nat->List Int)(T:List Nat)(k:Nat):∀n,fk p T k n<=n
 |0=>uI _
 |n+1=>by rw[fk];have:=vZ p T k n;split<;>omega
theorem EQ (p:Nat->List Int)(T:List Nat)(k:Nat):(mw p T k).Perm (k::T):=by
 rw[mw];refine Bl.trans ?_;rw[gR]
theorem DO (p:Nat->List Int)(T:List Nat)(k:Nat):∀n,0<fk p T k n->¬0<cC (p ((T[fk p T k n-1]?).getD 0)) (p k)
 |0,h=>by rw[fk]at h;omega
 |n+1,h=>by
  rw[fk]at h|-;split
  ·rename_i c;rw[if_pos c]at h;exact DO p T k n h
  ·rename_i c;exact c
theorem DN (p:Nat->List Int)(T:List Nat)(k:Nat):∀n,fk p T k n<n->0<cC (p ((T[fk p T k n]?).getD 0)) (p k)
 |0,h=>xA
 |n+1,h=>by
  rw[fk]at h|-;split
  ·rename_i c;rw[if_pos c]at h;by_cases Z:fk p T k n<n
   ·exact DN p T k n Z
   ·have:=vZ p T k n;have:fk p T k n=n:=xA;rw[this];exact c
  ·rename_i c;rw[if_neg c]at h;omega
theorem MO {p:Nat->List Int}{T:List Nat}{k:Nat}(S:T.Pairwise (mB p))(U:∀j,j∈T->j<k):(mw p T k).Pairwise (mB p):=by
 have Y:=vZ p T k T.length;refine PF (F5 p) Y S (λ x X Z=>?_) (λ x Z=>?_)
 ·have:=DO p T k T.length X;rw[Z,yN]at this;exact .inr ⟨λ h=>this (by have:=vP (p x) (p k);omega),U x (uA Z)⟩
 ·have V:=(uB.1 Z).1;have:=DN p T k T.length V;rw[Z,yN]at this;exact .inl (by have:=vP (p k) (p x);omega)
theorem SG (p:Nat->List Int)(l:List Nat)(k:Nat):jw p (l++[k])=mw p (jw p l) k:=by simp[jw]
theorem HZ (p:Nat->List Int)(l:List Nat):(jw p l).Perm l:=by
 have:∀(l T:List Nat),(l.foldl (mw p) T).Perm (l++T):=by
  intro l
  induction l with
  |nil=>intro T;exact Ch _
  |cons k l Z=>
   intro T;rw[jG];refine(Z _).trans (((EQ p T k).append_left l).trans ?_);exact Bl
 have h:=this l [];rw[yS]at h;exact h
theorem SH {p:Nat->List Int}{l:List Nat}(S:l.Pairwise (·<·)):(jw p l).Pairwise (mB p):=by
 have:∀(l T:List Nat),T.Pairwise (mB p)->l.Pairwise (·<·)->(∀j,j∈T->∀k,k∈l->j<k)->(l.foldl (mw p) T).Pairwise (mB p):=by
  intro l
  induction l with
  |nil=>intro T h _ _;exact h
  |cons k l R=>
   intro T U Y X;rw[zK]at Y;rw[jG];refine R _ (MO U λ j Z=>X j Z k xB) Y.2 λ j Z q V=>?_
   rcases yI.1 ((EQ p T k).mem_iff.1 Z)with rfl|Z
   ·exact Y.1 q V
   ·exact X j Z q (uP _ V)
 exact this l [] List.Pairwise.nil S (λ j Z=>by cases Z)
def dL (y z:List Int)(Z:List Arc)(k:Nat):Bool:= !(bM z Z (at0 y k)).isEmpty
def bR (y z:List Int)(Z:List Arc)(n:Nat):List Nat:=(List.range n).filter (dL y z Z)
def ig (y z:List Int)(Z:List Arc):List Nat:=jw (λ k=>bM z Z (at0 y k)) (bR y z Z y.length)
def hU (y z:List Int)(Z:List Arc):List Int:=(List.range y.length).map λ k=>if dL y z Z k then at0 y (((ig y z Z)[(bR y z Z k).length]?).getD 0:Nat)else at0 y k
theorem pI (y z:List Int)(Z:List Arc)(n:Nat):bR y z Z (n+1)=if dL y z Z n then bR y z Z n++[n]else bR y z Z n:=by
 rw[bR,qE,gO,kK,kV];split<;>simp[bR]
theorem rv (y z:List Int)(Z:List Arc)(n:Nat):(bR y z Z n).Pairwise (·<·):=Cq _ zB
theorem wA {y z:List Int}{Z:List Arc}{n k:Nat}(h:k∈bR y z Z n):k<n/\dL y z Z k=true:=by
 rw[bR,Ay,yD]at h;exact h
theorem pH {y z:List Int}{Z:List Arc}:∀{n k:Nat},k<n->dL y z Z k=true->(bR y z Z n)[(bR y z Z k).length]? =some k
 |0,_,h,_=>xA
 |n+1,k,h,X=>by
  rcases uD k n with c|c
  ·have Y:=pH c X;rw[pI];split
   ·rw[qZ (uB.1 Y).1];exact Y
   ·exact Y
  ·have:k=n:=xA;subst this;rw[pI,if_pos X,qL (uI _),jK];rfl
theorem ur (y z:List Int)(Z:List Arc):(ig y z Z).Perm (bR y z Z y.length):=HZ _ _
theorem HY (y z:List Int)(Z:List Arc):(ig y z Z).length=(bR y z Z y.length).length:=(ur y z Z).length_eq
def rX (y z:List Int)(Z:List Arc):List Nat:=(List.range y.length).map λ k=>if dL y z Z k then((ig y z Z)[(bR y z Z k).length]?).getD 0 else k
theorem OJ (y z:List Int)(Z:List Arc):hU y z Z=aW y (rX y z Z):=by
 rw[hU,aW,rX,gU];refine yK λ k _=>?_
 simp only[Function.comp_apply,at0,uK];split<;>rfl
theorem qe {y z:List Int}{Z:List Arc}{k:Nat}(U:k<y.length)(h:dL y z Z k=true):
  ∃t,(ig y z Z)[(bR y z Z k).length]? =some t/\t<y.length/\dL y z Z t=true:=by
 have Y:=(uB.1 (pH U h)).1;rw[<-HY]at Y;obtain⟨t,X⟩:=ak Y;have V:=(ur y z Z).mem_iff.1 (uA X);exact⟨t,X,wA V⟩
theorem FQ {l:List Nat}(R:l.Nodup){i j x:Nat}(T:l[i]? =some x)(S:l[j]? =some x):i=j:=by
 obtain⟨V,Z⟩:=uB.1 T;obtain⟨U,Y⟩:=uB.1 S;have X:=jB.1 R;rcases zP i j with h|h|h
 ·exact absurd (Z.trans Y.symm) (X i j V U h)
 ·exact h
 ·exact absurd (Y.trans Z.symm) (X j i U V h)
theorem SF (y z:List Int)(Z:List Arc):(ig y z Z).Nodup:=
 (ur y z Z).nodup_iff.2 ((rv y z Z y.length).imp λ h=>Dq h)
theorem Ep {y z:List Int}{Z:List Arc}{j k n:Nat}(T:j<n)(S:k<n)(h:dL y z Z j=true)(V:dL y z Z k=true)(U:(bR y z Z j).length=(bR y z Z k).length):j=k:=by
 have Y:=pH T h;have X:=pH S V;rw[U,X,yM]at Y;exact Y.symm
theorem OQ (y z:List Int)(V:List Arc):Go.Bd.Part y.length 0 (rX y z V):=by
 refine⟨?_,λ v N=>?_,by simp[rX]⟩
 ·rw[rX,List.nodup_iff_pairwise_ne,List.pairwise_map];refine List.Pairwise.imp_of_mem (R:=(·<·)) (λ{j k} S Z O=>?_) zB;rw[yD]at S Z;rcases X:dL y z V j with _|_<;>rcases U:dL y z V k with _|_<;>simp only[if_true,jH,qK]
  ·omega
  ·obtain⟨t,h,T,Y⟩:=qe Z U;rw[h,yN];rintro rfl;rw[X]at Y;cases Y
  ·obtain⟨t,h,T,Y⟩:=qe S X;rw[h,yN];rintro rfl;rw[U]at Y;cases Y
  ·obtain⟨t,h,T,Y⟩:=qe S X;obtain⟨u,Q,M,L⟩:=qe Z U;rw[h,Q,yN,yN];rintro rfl;have:=FQ (SF y z V) h Q;have:=Ep S Z X U this;omega
 ·obtain⟨k,Z,rfl⟩:=uR.1 N;rw[yD]at Z;rcases X:dL y z V k with _|_<;>simp only[if_true,jH,qK]
  ·exact Z
  ·obtain⟨t,h,T,Y⟩:=qe Z X;rw[h];exact T
theorem xJ {y:List Int}(h:y.Nodup)(z:List Int)(Z:List Arc):(hU y z Z).Perm y:=by
 rw[OJ];exact xQ h (OQ y z Z)
theorem F4 (y z:List Int)(Z:List Arc):(hU y z Z).length=y.length:=by simp[hU]
def kg (b:Lv)(i f:Nat):Lv:=dG b i (hU (aF b.2.1 i) (aF b.2.1 f) b.2.2.1)
theorem E2 {a b:Lv}(h:Kin a b){i:Nat}(Z:i<a.2.1.length)(f:Nat):Kin a (kg b i f):=
 h.put (h.lay Z) (xJ (nk h.ok (h.lay Z)) _ _)
def dV (b:Lv):Nat->Lv
 |0=>b
 |k+1=>kg (dV b k) (k+1) k
def upB (b:Lv)(n:Nat):Nat->Lv
 |0=>b
 |k+1=>kg (upB b n k) (n-2-k) (n-1-k)
def swB (b:Lv):Lv:=upB (dV b (b.2.1.length-1)) b.2.1.length (b.2.1.length-1)
theorem tk {a b:Lv}(h:Kin a b):∀k,k<=a.2.1.length-1->Kin a (dV b k)
 |0,_=>h
 |k+1,Z=>E2 (tk h k xA) xA k
theorem u4 {a b:Lv}(h:Kin a b):∀k,k<=a.2.1.length-1->Kin a (upB b a.2.1.length k)
 |0,_=>h
 |k+1,Z=>E2 (u4 h k xA) xA _
theorem Tf {a b:Lv}(h:Kin a b):Kin a (swB b):=by
 rw[swB,h.len];exact u4 (tk h _ (uI _)) _ (uI _)
def c9 (a:Lv):Nat->Lv
 |0=>a
 |k+1=>swB (c9 a k)
def bQ (a:Lv):Nat->Lv
 |0=>a
 |k+1=>if bG (c9 a (k+1))<bG (bQ a k)then c9 a (k+1)else bQ a k
theorem tR {a:Lv}(h:aH a=true)(Z:wide a):∀k,Kin a (c9 a k)
 |0=>Kin.refl h Z
 |k+1=>Tf (tR h Z k)
theorem ra {a:Lv}(h:aH a=true)(Z:wide a):∀k,Kin a (bQ a k)
 |0=>Kin.refl h Z
 |k+1=>by
  rw[bQ];split
  ·exact tR h Z (k+1)
  ·exact ra h Z k
def jm (r:Int):Nat:=(min (max r 0) 100).toNat
def vu (a:Lv)(i f:Int):Lv:=if dC a i f then kg a i.toNat f.toNat else lv0
def zk (a:Lv):Lv:=if aH a then swB a else lv0
def mZ (a:Lv)(r:Int):Lv×Int:=if aH a then(bQ a (jm r),bG (bQ a (jm r)))else(lv0,0)
theorem NS {a:Lv}{i f:Int}(h:dC a i f=true):aH a=true/\(0<=i/\i<a.2.1.length)/\(0<=f/\f<a.2.1.length)/\(f=i-1\/f=i+1):=by
 simp only[dC,uN,uG]at h;obtain⟨⟨⟨Z,Y⟩,X⟩,V⟩:=h;exact⟨Z,Y,X,V⟩
set_option maxRecDepth 100000
attribute [local irreducible] ao wpG ah ax
def fZ (x:Int):Bool:=decide (0<=x/\x<=1048576)
theorem xz (l:List Int):mA l=(decide (l.length<=4096)&&l.all fZ):=rfl
theorem CO {l:List Int}(h:∀x,x∈l->fZ x=true):0<=l.sum/\l.sum<=((l.length*1048576:Nat):Int):=
 ET λ x Z=>by
  have:=h x Z;rw[fZ,uG]at this;exact this
theorem Ii {l:List Int}{k:Nat}{x:Int}(h:l[k]? =some x):(l.take (k+1)).sum=(l.take k).sum+x:=by
 rw[aM h,Cb];simp
theorem BN {l:List Int}{k:Nat}{x:Int}(h:l[k]? =some x)(Z:fZ x=false):l.all fZ=false:=by
 rw[Ci];exact⟨x,uA h,by rw[Z];decide⟩
theorem all_take {l:List Int}(h:∀x,x∈l.take l.length->fZ x=true):l.all fZ=true:=by
 rw[yE]at h;rw[yF];exact h
theorem CP (l:List Int):ah Tryz.prog 263 [aj l] (.tup [.int (bW l), .int (aP l)]):=by
 rw[bW,aP,xz];refine kE Tryz.func263 ?_;intro V B X J;by_cases S:l.length<=4096
 ·refine ac kO aa aa ?_;refine aq (λ(k:Nat)=>k<=l.length/\(∀x,x∈l.take k->fZ x=true)) (λ k=>[(0, .d (aj l)),(4, .int (l.take k).sum),(10, .d (aj l)),(11, .int l.length),(12, .int k)]) (λ k=>[]) (λ k=>l.length-k) 0 ?_ ?_ ?_
  ·exact⟨uF _,λ x Z=>by rw[yQ]at Z;cases Z⟩
  ·exact kN (ai @yQ.{0} @Cz.{0}) []
  ·rintro k ⟨L,h⟩;have N:=CO h;rw[yA,jF L]at N;rcases uD k l.length with T|M
   ·obtain⟨x,Z⟩:=ak T;have O:=Ii Z;by_cases c:0<=x/\x<=1048576
    ·obtain⟨R,Q⟩:=c;refine ac kO (ae Z) aa ?_;refine⟨k+1,?_,kN (ae O) [],?_⟩
     ·refine⟨xA,λ y Y=>?_⟩;rw[aM Z]at Y;rcases yP.1 Y with Y|Y
      ·exact h y Y
      ·rw[uX.1 Y,fZ,uZ ⟨R,Q⟩]
     ·omega
    ·rw[BN Z (by rw[fZ,uW c]),zY,if_neg xC,if_neg xC];refine kw kO (ae Z) aa ?_
     repeat' first|exact True.intro|refine Bn.mk ?_ ?_|intro K
     all_goals exact⟨_,rfl,ap rfl,ap rfl,trivial⟩
   ·have:k=l.length:=xA;subst this;rw[all_take h,uZ S,jZ,if_pos rfl,if_pos rfl];refine ac kO aa aa ?_;refine⟨_,rfl,ap ?_,ap rfl,trivial⟩;rw[yE]
 ·rw[uW S,Ao,if_neg xC,if_neg xC];have U:=bI 0 V rfl;rw[uC]at U;refine ac kO aa aa ?_;exact⟨_,rfl,ap rfl,ap rfl,trivial⟩
theorem ES (a:Int):ah Tryz.prog 282 [.int a] (.bool false):=by
 refine kE Tryz.func282 ?_;intro h B X Z;refine ac kO aa aa ?_;exact ay xB
theorem vT (a b:Int):ah Tryz.prog 264 [.int a, .int b] (.int (sg a b)):=by
 have h:=ES a;have V:=ES b;rw[sg];refine kE Tryz.func264 ?_;intro U B X T;by_cases Z:a<b
 ·rw[if_pos Z];refine ac kO (ae Z) (ai h V) ?_;exact ap rfl
 ·rw[if_neg Z];by_cases Y:b<a
  ·rw[if_pos Y];refine ac kO (ai Z Y) (ai h V) ?_;exact ap rfl
  ·rw[if_neg Y];refine ac kO (ai Z Y) (ai h V) ?_;exact ap rfl
theorem FH (n:Nat):(if(1:Int)<n then(1:Int)else(n:Int))=((min n 1:Nat):Int):=by split<;>omega
theorem JY (a b:List Int):ah Tryz.prog 246 [aj a,aj b] (.int (cC a b)):=by
 have h:=CP a;have Z:=CP b;have Q:=vT (bW a*aP b) (bW b*aP a);have L:=ua a b;have K:=ua b a;rw[cC];have N:=FH (aP a);have M:=FH (aP b);have z0:((min 0 1:Nat):Int)=0:=rfl;generalize bW a=S at*;generalize bW b=T at*;generalize aP a=j at*;generalize aP b=k at*;refine kE Tryz.func246 ?_;intro O B X J;by_cases Y:j=0
 ·rw[if_pos (.inl Y),Y,z0];rw[Y]at h;have R:=vT 0 ((min k 1:Nat):Int);have q:((0:Nat):Int)=0:=rfl;refine ac kO (ai q M) (av h Z R) ?_;exact ap rfl
 ·by_cases U:k=0
  ·rw[if_pos (.inr U),U,z0];rw[U]at Z;have R:=vT ((min j 1:Nat):Int) 0;have q:((0:Nat):Int)=0:=rfl;have V:¬(j:Int)=0:=xA;refine ac kO (av q N V) (av h Z R) ?_;exact ap rfl
  ·rw[if_neg xA];refine ac kO aa (av h Z Q) ?_;exact ap rfl
theorem Kl (u v:Int)(a b:List Int):ah Tryz.prog 245 [.ag [.int u,aj a], .ag [.int v,aj b]] (.int (cC a b)):=by
 have h:=JY a b;refine kE Tryz.func245 ?_;intro Z B X Y;refine ac kO aa (ae h) ?_;exact ap rfl
def plP (l:List Int):List Int:=if mA l then l else[]
theorem Pk (l:List Int):(plP l).sum=bW l:=by rw[plP,bW];split<;>rfl
theorem Gl (l:List Int):(plP l).length=aP l:=by rw[plP,aP];split<;>rfl
theorem Hk (l:List Int):ah Tryz.prog 288 [aj l] (aj (plP l)):=by
 rw[plP,xz];refine kE Tryz.func288 ?_;intro V B X L;by_cases S:l.length<=4096
 ·refine ac kO aa aa ?_;refine aq (λ(k:Nat)=>k<=l.length/\(∀x,x∈l.take k->fZ x=true)) (λ k=>[(0, .d (aj l)),(3, .int k)]) (λ k=>[]) (λ k=>l.length-k) 0 ?_ ?_ ?_
  ·exact⟨uF _,λ x Z=>by rw[yQ]at Z;cases Z⟩
  ·exact kN aa []
  ·rintro k ⟨M,h⟩;rcases uD k l.length with T|O
   ·obtain⟨x,Z⟩:=ak T;by_cases c:0<=x/\x<=1048576
    ·obtain⟨R,Q⟩:=c;refine ac kO (ae Z) aa ?_;refine⟨k+1,?_,kN aa [],?_⟩
     ·refine⟨xA,λ y Y=>?_⟩;rw[aM Z]at Y;rcases yP.1 Y with Y|Y
      ·exact h y Y
      ·rw[uX.1 Y,fZ,uZ ⟨R,Q⟩]
     ·omega
    ·rw[BN Z (by rw[fZ,uW c]),zY,if_neg xC];refine kw kO (ae Z) aa ?_
     repeat' first|exact True.intro|refine Bn.mk ?_ ?_|intro N
     all_goals exact dH rfl
   ·have:k=l.length:=xA;subst this;rw[all_take h,uZ S,jZ,if_pos rfl];refine ac kO aa aa ?_;exact dH rfl
 ·rw[uW S,Ao,if_neg xC];have U:=bI 0 V rfl;rw[uC]at U;refine ac kO aa aa ?_;exact dH rfl
theorem tX (l:List Int):(plP l).length<=4096/\∀x,x∈plP l->fZ x=true:=by
 rw[plP];split
 ·rename_i h;rw[xz,uN,uG,yF]at h;exact h
 ·exact⟨uF _,λ x Z=>by cases Z⟩
theorem Hm (l:List Int)(h:l.length<=4096)(U:∀x,x∈l->fZ x=true):ah Tryz.prog 289 [aj l] (.int l.sum):=by
 refine kE Tryz.func289 ?_;intro S B X N;refine ac kO aa aa ?_;refine aq (λ(k:Nat)=>k<=l.length) (λ k=>[(0, .d (aj l)),(3, .int (l.take k).sum),(4, .int k)]) (λ k=>[]) (λ k=>l.length-k) 0 ?_ ?_ ?_
 ·exact uF _
 ·exact kN (ai @yQ.{0} @Cz.{0}) []
 ·intro k O;have R:=CO (l:=l.take k) (λ x h=>U x (gT h));rw[yA,jF O]at R;rcases uD k l.length with Y|Q
  ·obtain⟨x,Z⟩:=ak Y;have T:=Ii Z;have V:=U x (uA Z);rw[fZ,uG]at V;refine ac kO (ae Z) aa ?_;refine⟨k+1,?_,kN (ae T) [],?_⟩
   ·omega
   ·omega
  ·have:k=l.length:=xA;subst this;refine ac kO aa aa ?_;exact ap (by rw[yE])
theorem PZ (a b:List Int):ah Tryz.prog 277 [aj a,aj b] (.int (cC a b)):=by
 have h:=Hk a;have V:=Hk b;have S:=Hm (plP a) (tX a).1 (tX a).2;have R:=Hm (plP b) (tX b).1 (tX b).2;have L:=ua a b;have K:=ua b a;rw[cC];rw[Pk]at S R;have Q:=Gl a;have O:=Gl b;have I:=vS a;have H:=vS b;generalize plP a=A at*;generalize plP b=C at*;refine kE Tryz.func277 ?_;intro M B X G;by_cases J:A.length=0
 ·by_cases N:C.length=0
  ·rw[if_pos (.inl xA),show aP a=0 by omega,show aP b=0 by omega];have Y:(A.length:Int)=0:=xA;have Z:(C.length:Int)=0:=xA;refine ac kO (ai Y Z) (ai h V) ?_;exact ap rfl
  ·rw[if_pos (.inl xA),show aP a=0 by omega,show min (aP b) 1=1 by omega];have Y:(A.length:Int)=0:=xA;have Z:¬(C.length:Int)=0:=xA;refine ac kO (ai Y Z) (ai h V) ?_;exact ap rfl
 ·have Y:¬(A.length:Int)=0:=xA;by_cases N:C.length=0
  ·rw[if_pos (.inr xA),show aP b=0 by omega,show min (aP a) 1=1 by omega];have Z:(C.length:Int)=0:=xA;refine ac kO (ai Y Z) (ai h V) ?_;exact ap rfl
  ·have Z:¬(C.length:Int)=0:=xA;rw[if_neg xA];rw[<-O]at L;rw[<-Q]at K;rw[<-Q,<-O];rw[sg];by_cases U:bW a*(C.length:Int)<bW b*(A.length:Int)
   ·rw[if_pos U];refine ac kO (av Y Z U) (aE h V S R) ?_;exact ap rfl
   ·rw[if_neg U];by_cases T:bW b*(A.length:Int)<bW a*(C.length:Int)
    ·rw[if_pos T];refine ac kO (aE Y Z U T) (aE h V S R) ?_;exact ap rfl
    ·rw[if_neg T];refine ac kO (aE Y Z U T) (aE h V S R) ?_;exact ap rfl
theorem zx {a:Lv}(h:aH a=true){v:Int}(X:v∈a.2.1.flatten):0<=v/\v<tot a.2.1:=by
 obtain⟨_,_,Y⟩:=oX h;obtain⟨_,_,Z,_⟩:=p7 Y;exact(ms.1 Z).1 v X
theorem BS {a:Lv}(h:aH a=true){x:Arc}(V:x∈a.2.2.1):x.1≠x.2/\(0<=x.1/\x.1<tot a.2.1)/\(0<=x.2/\x.2<tot a.2.1):=by
 obtain⟨k,X⟩:=qA V;obtain⟨r,p,q,Y,Z⟩:=zw h X;refine⟨λ e=>?_,zx h Y.mem,zx h Z.mem⟩;rw[<-e]at Z;have:=dJ.layer (lz h) Y Z;omega
theorem Pv {z:List Int}{Z:List Arc}{v:Int}{k:Nat}{x:Arc}(h:Z[k]? =some x):bM z (Z.take (k+1)) v=bM z (Z.take k) v++nI z v x:=by
 rw[bM,bM,aM h,zE,qM,kI,yS]
theorem Kn (a:Lv)(v:Int)(z pl:List Int)(G:a.2.2.1.length<=1000)(N:∀u:Int,0<=u->u<pl.length->pl[u.toNat]? =some (placeF z u))
  (hx:∀x,x∈a.2.2.1->x.1≠x.2/\(0<=x.1/\x.1<pl.length)/\(0<=x.2/\x.2<pl.length)):
  ah Tryz.prog 243 [lvD a, .int v,aj pl] (aj (bM z a.2.2.1 v)):=by
 obtain⟨n,ls,Z,cs⟩:=a;dsimp only at G hx|-;refine kE Tryz.func243 ?_;intro hat B X w0;refine ac kO aa aa ?_;refine aC _ (dg 7 901 1 rfl rfl) ?_;refine aq (λ(k:Nat)=>k<=Z.length) (λ k=>[(1, .int v),(2, .d (aj pl)),(7, .ref 901 1 0 (bM z (Z.take k) v).length (bM z (Z.take k) v).length),(11, .d (aw Z)),(12, .int Z.length),(13, .int k)]) (λ k=>[(901, .row 1 ((bM z (Z.take k) v).map D.int))]) (λ k=>Z.length-k) 0 ?_ ?_ ?_
 ·exact uF _
 ·exact kN (aQ @yQ.{0} @bM.eq_1 @kI.{0,0} @uY.{0,0} @uU.{0}) []
 ·intro k hk;have Q:=Gt z v (Z.take k);rw[yA,jF hk]at Q;rcases uD k Z.length with F|hge
  ·obtain⟨x,V⟩:=ak F;obtain⟨O,⟨b,M⟩,⟨L,K⟩⟩:=hx x (uA V);have I:=N x.1 b M;have H:=N x.2 L K;have T:=Pv (z:=z) (v:=v) V;rw[nI]at T;generalize bM z (Z.take k) v=R at*;generalize placeF z x.1=q1 at*;generalize placeF z x.2=q2 at*;obtain⟨s,t⟩:=x;dsimp only at*;have Y:(R.map D.int).take R.length=R.map D.int:=aA _ _;have E:s.toNat<pl.length:=xA;have C:t.toNat<pl.length:=xA;by_cases U:s=v/\0<=q2
   ·obtain⟨U,A⟩:=U;have J:¬t=v:=λ e=>O (U.trans e.symm)
    rw[if_pos ⟨U,A⟩,if_neg (λ h=>J h.1),yS]at T;refine ac kO (bj V I H E C b M (bq L K U A J Y)) aa ?_;refine⟨k+1,?_,kN (bj T @uO.{0,0} @uS.{0,0} @uY.{0,0} @uH.{0} @uV.{0} @uU.{0} (ai @yU Y)) [(901,36)],?_⟩
    ·omega
    ·omega
   ·by_cases S:t=v/\0<=q1
    ·obtain⟨S,q⟩:=S;have J:¬s=v:=λ e=>O (e.trans S.symm)
     rw[if_neg U,if_pos ⟨S,q⟩,gB]at T;refine ac kO (bj V I H E C b M (bq L K J S q Y)) aa ?_;refine⟨k+1,?_,kN (bj T @uO.{0,0} @uS.{0,0} @uY.{0,0} @uH.{0} @uV.{0} @uU.{0} (ai @yU Y)) [(901,56)],?_⟩
     ·omega
     ·omega
    ·rw[if_neg U,if_neg S,gB,yS]at T;refine kw kO (bj V I H E C b M (av L K Y)) aa ?_
     repeat' first|exact True.intro|refine Bn.mk ?_ ?_|intro hc
     all_goals
      refine⟨k+1,?_,kN (ae T) [],?_⟩
      ·omega
      ·omega
  ·have:k=Z.length:=xA;subst this;rw[yE]at Q|-;refine ac kO aa aa ?_;exact bZ (o:=901) rfl rfl xB (aA _ _)
theorem N0 (v u:Int)(k:Nat)(x:Arc):(dO v u k x).length<=1:=by rw[dO];split<;>simp
theorem xm (v u:Int)(k:Nat):∀Z:List Arc,(Z.flatMap (dO v u k)).length<=Z.length
 |[]=>xB
 |x::Z=>by
  have:=xm v u k Z;have:=N0 v u k x;rw[qM,uH,uV];omega
def nx (y:List Int)(Z:List Arc)(v:Int)(n:Nat):List Int:=(List.range n).flatMap λ k:Nat=>Z.flatMap (dO v (at0 y k) k)
theorem FL (y:List Int)(Z:List Arc)(v:Int)(n:Nat):nx y Z v (n+1)=nx y Z v n++Z.flatMap (dO v (at0 y n) n):=by
 rw[nx,qE,zE,qM,kI,yS];rfl
theorem FK (y:List Int)(Z:List Arc)(v:Int):∀n,(nx y Z v n).length<=n*Z.length
 |0=>by simp[nx]
 |n+1=>by
  have:=FK y Z v n;have:=xm v (at0 y n) n Z;rw[FL,uH,qN];omega
theorem QW (a:Lv)(v:Int)(f:Nat)(z:List Int)(H:a.2.1[f]? =some z)(hzl:z.length<=1000)(O:a.2.2.1.length<=1000)(hfl:a.2.1.length<=1000):
  ah Tryz.prog 276 [lvD a, .int v, .int f] (aj (lm z a.2.2.1 v)):=by
 have hfi:=(uB.1 H).1;show ah Tryz.prog 276 [lvD a, .int v, .int f] (aj (nx z a.2.2.1 v z.length));have T:=FK z a.2.2.1 v;have Q:=FL z a.2.2.1 v;have U:nx z a.2.2.1 v 0=[]:=rfl;generalize nx z a.2.2.1 v=N at*;obtain⟨n,C,Z,G⟩:=a;dsimp only at*;refine kE Tryz.func276 ?_;intro hat B X w0;refine ac kO aa aa ?_;refine aC _ (dg 7 901 1 rfl rfl) ?_;refine aq (λ(k:Nat)=>k<=z.length) (λ k=>[(1, .int v),(2, .int f),(3, .ptr 3 0 0 0),(7, .ref 901 1 0 (N k).length (N k).length),(8, .int k)]) (λ k=>[(3, .cells [.int n, .d (am C), .d (aw Z), .d (am G)]),(901, .row 1 ((N k).map D.int))]) (λ k=>z.length-k) 0 ?_ ?_ ?_
 ·exact uF _
 ·exact kN (av U @uY.{0,0} @uU.{0}) []
 ·intro k hk;have q:=T k;have hb1:k*Z.length<=1000*1000:=jW xA O;rcases uD k z.length with K|hge
  ·obtain⟨u,E⟩:=ak K;have J:at0 z k=u:=by rw[at0,uK,E];rfl
   have F:=Q k;rw[J]at F;generalize A:N k=R at*;refine ac kO (ai H E) aa ?_;refine aq (λ(j:Nat)=>j<=Z.length) (λ j=>[(1, .int v),(2, .int f),(3, .ptr 3 0 0 0),(7, .ref 901 1 0 (R++(Z.take j).flatMap (dO v u k)).length (R++(Z.take j).flatMap (dO v u k)).length),(8, .int k),(9, .int u),(10, .int j)]) (λ j=>[(3, .cells [.int n, .d (am C), .d (aw Z), .d (am G)]),(901, .row 1 ((R++(Z.take j).flatMap (dO v u k)).map D.int))]) (λ j=>Z.length-j) 0 ?_ ?_ ?_
   ·exact uF _
   ·exact kN (aE @yQ.{0} @kI.{0,0} @yS.{0} A) []
   ·intro j hj;have M:=xm v u k (Z.take j);rw[yA,jF hj]at M;rcases uD j Z.length with L|hgj
    ·obtain⟨x,I⟩:=ak L;have V:R++(Z.take (j+1)).flatMap (dO v u k)=(R++(Z.take j).flatMap (dO v u k))++dO v u k x:=by
      rw[aM I,zE,qM,kI,yS,qG]
     rw[dO]at V;have b:(R++(Z.take j).flatMap (dO v u k)).length<=2000000:=by rw[uH];omega
     generalize R++(Z.take j).flatMap (dO v u k)=S at*;have Y:(S.map D.int).take S.length=S.map D.int:=aA _ _;obtain⟨s,t⟩:=x;dsimp only at*;by_cases c:(s=u/\t=v)\/(s=v/\t=u)
     ·rw[if_pos c]at V;refine kw kO (ai I Y) aa ?_
      repeat' first|exact True.intro|refine Bn.mk ?_ ?_|intro hc
      all_goals
       refine⟨j+1,?_,kN (bj V @uO.{0,0} @uS.{0,0} @uY.{0,0} @uH.{0} @uV.{0} @uU.{0} (ai @yU Y)) [(901,77)],?_⟩
       ·omega
       ·omega
     ·rw[if_neg c,yS]at V;have c1:¬(s=u/\t=v):=λ h=>c (.inl h)
      have c2:¬(s=v/\t=u):=λ h=>c (.inr h)
      refine kw kO (ai I Y) aa ?_
      repeat' first|exact True.intro|refine Bn.mk ?_ ?_|intro hc
      all_goals
       refine⟨j+1,?_,kN (ae V) [],?_⟩
       ·omega
       ·omega
    ·have:j=Z.length:=xA;subst this;rw[yE,<-F];refine ac kO aa aa ?_;refine⟨k+1,?_,kN aa [],?_⟩
     ·omega
     ·omega
  ·have:k=z.length:=xA;subst this;refine ac kO (ae H) aa ?_;exact bZ (o:=901) rfl rfl xB (aA _ _)
end Go.Proofs.YtjjbhjnpeenbkaaGreatDoor
