/- Stable sorting: exchanging two stretches of a row. -/
import Derived.Test.YtjjbhjnpeenbkaaGreatDoorTypes
import Derived.Test.YtjjbhjnpeenbkaaGreatDoorPSCmp
import Derived.Test.YtjjbhjnpeenbkaaGreatDoorPSEnd
import Derived.Test.YtjjbhjnpeenbkaaGreatDoorStM
set_option linter.unusedSimpArgs false
set_option linter.unusedVariables false
set_option maxHeartbeats 16000000
namespace Go.Proofs.YtjjbhjnpeenbkaaGreatDoor
open Go Go.PS Go.Proofs
set_option maxRecDepth 100000
attribute [local irreducible] Zad wpG Zaa Zag
abbrev elD (v:Nat->Int)(p:Nat->List D)(k:Nat):D:= .ag [.int (v k), .sl (p k)]
theorem Zuy {α:Type}(A:List α)(u w:α)(C:List α):(A++u::C).set A.length w=A++w::C:=by
 rw[Cm,if_neg (Nat.lt_irrefl _),jD];rfl
theorem ZrF {α:Type}(A:List α)(u:α)(C:List α):(A++u::C)[A.length]? =some u:=by
 rw[qF (uJ _),jD];rfl
theorem Znq {α:Type}{l:List α}{i:Nat}{u:α}(h:l[i]? =some u):l.drop i=u::l.drop (i+1):=by
 obtain⟨hl,rfl⟩:=uB.1 h;exact qY hl
open Go.Stb
def ZhI (c:Nat->Nat->Int)(R:Nat->Nat->Prop)(s x:Nat):Prop:=c x s<0↔R x s
theorem ZwK {c:Nat->Nat->Int}{R:Nat->Nat->Prop}{M:List Nat}(h:M.Pairwise (ZhI c R)){k x s:Nat}(hx:M[k]? =some x)(hs:s∈M.take k):ZhI c R s x:=by
 rw[<-gJ k M]at h;exact(gE.1 h).2.2 s hs x (by rw[Znq hx];simp)
theorem ZAw {M:List Nat}(h:M.Nodup){k x s:Nat}(hx:M[k]? =some x)(hs:s∈M.take k):s≠x:=by
 rw[<-gJ k M,kL]at h;exact h.2.2 s hs x (by rw[Znq hx];simp)
theorem Zzx (v:Nat->Int)(p:Nat->List D)(g:Nat)(c:Nat->Nat->Int)(R:Nat->Nat->Prop)(hR:Ord R)(hcmp:∀j k,Zaa Tryz.prog g [elD v p j,elD v p k] (.int (c j k)))
  (P M Q T:List Nat)(hb:M.Pairwise (ZhI c R))(hnd:M.Nodup)(hT:T.Perm M)(hTs:T.Pairwise R)(N:Nat)(hN:P.length+M.length+Q.length=N)(hN1:N<=1000000)(a e:Int)(ha:a=P.length)(he:e=(P.length+M.length:Nat)):
  Zag Tryz.prog 280 [.ref 1000 2 0 N N, .int a, .int e, .d (.fn g [])] [(1000, .row 2 ((P++M++Q).map (elD v p)))] (.tup []) [(1000, .row 2 ((P++T++Q).map (elD v p)))]:=by
 subst ha he;obtain⟨A,hA⟩:∃A,A=P.length:=⟨_,rfl⟩;rw[<-hA];refine kM Tryz.func280 ?_;intro B X w0;refine Zdn ?_;refine kw1 kO kc0 kc0 ?_;refine Zaf (λ(q:Nat×List Nat)=>match q with|(k,S)=>1<=k/\k<=M.length+1/\S.Pairwise R/\S.Perm (M.take k)) (λ(k,S)=>[(0, .ref 1000 2 0 N N),(1, .int A),(2, .int ((A+M.length:Nat):Int)),(3, .d (.fn g [])),(8, .int ((A+k:Nat):Int))]) (λ(k,S)=>[(1000, .row 2 ((P++S++M.drop k++Q).map (elD v p)))]) (λ(k,S)=>M.length+1-k) (1,M.take 1) ?_ ?_ ?_
 ·refine⟨uJ _,by omega,?_,List.Perm.refl _⟩;rcases M with _|⟨x,M⟩
  ·exact List.Pairwise.nil
  ·exact zC _ _
 ·have e0:P++M.take 1++M.drop 1++Q=P++M++Q:=by rw[qK P,gJ]
  exact kN (kc3 e0 @qQ @gV) []
 ·rintro⟨k,S⟩ ⟨hk1,hk2,hSs,hSp⟩;dsimp only at hk1 hk2 hSs hSp|-;have hSl:=hSp.length_eq;rw[yJ]at hSl;rcases uE k M.length with hlt|hge
  ·obtain⟨x,hx⟩:=Zac hlt;have hdr:=Znq hx;have hSx:∀s,s∈S->ZhI c R s x/\s≠x:=λ s hs=>⟨ZwK hb hx (hSp.mem_iff.1 hs),ZAw hnd hx (hSp.mem_iff.1 hs)⟩
   generalize hQ2:M.drop (k+1)++Q=Q2 at*;have hQl:Q2.length+k+1=M.length+Q.length:=by rw[<-hQ2,uG,kC];omega
   refine kw1 kO kc0 kc0 ?_;refine Zaf (λ(q:List Nat×List Nat)=>match q with|(S1,S2)=>S1++S2=S/\(∀s,s∈S2->R x s)) (λ(S1,S2)=>[(0, .ref 1000 2 0 N N),(1, .int A),(2, .int ((A+M.length:Nat):Int)),(3, .d (.fn g [])),(8, .int ((A+k:Nat):Int)),(9, .int ((A+S1.length:Nat):Int))]) (λ(S1,S2)=>[(1000, .row 2 ((P++S1++x::(S2++Q2)).map (elD v p)))]) (λ(S1,S2)=>S1.length) (S,[]) ?_ ?_ ?_
   ·exact⟨yT _,λ s hs=>by cases hs⟩
   ·have e0:P++S++M.drop k++Q=P++S++x::Q2:=by rw[hdr,<-hQ2];simp
    have e1:S.length=k:=by omega
    exact kN (kc3 e0 e1 @gU.{0}) []
   ·rintro⟨S1,S2⟩ ⟨hSS,hS2⟩;dsimp only at hSS hS2|-;have hl0:S1.length+S2.length=k:=by
     have:=qU List.length hSS;rw[uG]at this;omega
    have hdone:S1=[]\/(∃S3 s,S1=S3++[s]):=by
     rcases Bz S1 with h|⟨l,z,h⟩
     ·exact .inl h
     ·exact .inr ⟨l,z,by rw[h,Ca]⟩
    have hfin:(∀s,s∈S1->R s x)->(S1++x::S2).Pairwise R/\(S1++x::S2).Perm (M.take (k+1)):=λ h=>by
     refine⟨Zzt hR (by rw[hSS];exact hSs) h hS2,?_⟩;rw[ZaA hx];refine Bc.trans ?_;rw[hSS];exact(List.perm_append_comm (l₁:=[x]) (l₂:=S)).trans (hSp.append_right [x])
    have hrow:P++S1++x::(S2++Q2)=P++(S1++x::S2)++M.drop (k+1)++Q:=by rw[<-hQ2];simp
    have hkk:((A+k:Nat):Int)+1=((A+(k+1):Nat):Int):=by omega
    rcases hdone with rfl|⟨S3,s,rfl⟩
    ·obtain⟨f1,f2⟩:=hfin (λ s hs=>by cases hs);have z0:A+([]:List Nat).length=A:=rfl;rw[z0];refine kw1 kO kc0 kc0 ?_;have hrow0:P++x::(S2++Q2)=P++x::S2++M.drop (k+1)++Q:=by rw[<-hQ2];simp
     refine⟨(k+1,x::S2),?_,kN (kc2 @hrow0 hkk) [],?_⟩
     ·exact⟨by omega,by omega,f1,f2⟩
     ·dsimp only;omega
    ·obtain⟨hbk,hne⟩:=hSx s (by rw[<-hSS];simp);have h1:=hcmp x s;rw[uG,yL]at hl0;obtain⟨J,hJ⟩:∃J,J=A+S3.length:=⟨_,rfl⟩;have z0:A+(S3++[s]).length=J+1:=by rw[uG,yL];omega
     have g1:(P++(S3++[s])++x::(S2++Q2))[J+1]? =some x:=by
      rw[<-z0,hA,<-uG];exact ZrF _ _ _
     have rw1:P++(S3++[s])++x::(S2++Q2)=(P++S3)++s::x::(S2++Q2):=by simp
     have hPJ:(P++S3).length=J:=by rw[uG];omega
     have g2:(P++(S3++[s])++x::(S2++Q2))[J]? =some s:=by rw[rw1,<-hPJ];exact ZrF _ _ _
     have hln:(P++(S3++[s])++x::(S2++Q2)).length=N:=by
      simp only[uG,yB,uY];omega
     have hst:((P++(S3++[s])++x::(S2++Q2)).set (J+1) s).set J x=P++S3++x::(s::S2++Q2):=by
      have r1:(P++(S3++[s])++x::(S2++Q2)).set (J+1) s=(P++S3)++s::s::(S2++Q2):=by
       rw[<-z0,hA,<-uG,Zuy];simp
      rw[r1,<-hPJ,Zuy];simp
     have g3:((P++(S3++[s])++x::(S2++Q2)).set (J+1) s)[J]? =some s:=by
      rw[qL,if_neg (by omega),g2]
     rw[z0];rw[hrow]at*;generalize hLL:P++(S3++[s]++x::S2)++M.drop (k+1)++Q=LL at*;have g4:((LL.map (elD v p)).set (J+1) (elD v p s))[J]? =some (elD v p s):=by rw[<-yZ,uI,g3];rfl
     have hs2:((LL.map (elD v p)).set (J+1) (elD v p s)).set J (elD v p x)=(P++S3++x::(s::S2++Q2)).map (elD v p):=by rw[<-hst,yZ,yZ]
     have n1:(((J+1:Nat):Int)-1).toNat=J:=by omega
     have n2:(((J+1:Nat):Int)).toNat=J+1:=by omega
     have n3:((J+1:Nat):Int)-1=(J:Int):=by omega
     by_cases hlt2:c x s<0
     ·refine kw1 kO (kc8 n1 n2 n3 g1 g2 hln hlt2 (kc3 @yP.{0} g4 hs2)) (kc1 h1) ?_;refine⟨(S3,s::S2),?_,kN (kc2 hs2 hJ) [],?_⟩
      ·dsimp only;exact⟨by rw[<-hSS];simp,λ z hz=>by
        rcases yF.1 hz with rfl|hz
        ·exact hbk.1 hlt2
        ·exact hS2 z hz⟩
      ·dsimp only;rw[uG,yL];omega
     ·have hsx:R s x:=by
       rcases hR.total s x hne with h|h
       ·exact h
       ·exact absurd (hbk.2 h) hlt2
      have hS1s:(S3++[s]).Pairwise R:=by
       rw[<-hSS]at hSs;exact(gE.1 hSs).1
      obtain⟨f1,f2⟩:=hfin (λ z hz=>by
       rcases yK.1 hz with hz|hz
       ·exact hR.trans z s x ((gE.1 hS1s).2.2 z hz s (by simp)) hsx
       ·rw[uS.1 hz];exact hsx)
      refine kw1 kO (kc7 n1 n2 n3 g1 g2 hln hlt2) (kc1 h1) ?_;refine⟨(k+1,S3++[s]++x::S2),?_,kN (kc2 hLL hkk) [],?_⟩
      ·exact⟨by omega,by omega,f1,f2⟩
      ·dsimp only;omega
  ·have hS:S=T:=by
    rw[uD hge]at hSp;exact ZFi hR (hSp.trans hT.symm) hSs hTs
   subst hS;refine kw1 kO kc0 kc0 ?_;have e0:P++S++M.drop k++Q=P++S++Q:=by rw[List.drop_of_length_le hge,yT]
   refine⟨_,Zby.1 (kN (L:=[]) (M:=[(1000, .row 2 ((P++S++Q).map (elD v p)))]) (kc1 e0) []),?_⟩;exact⟨⟨[],rfl,trivial⟩,fmc ⟨rfl,fmn⟩⟩
theorem ZEz (v:Nat->Int)(p:Nat->List D)(g:Nat)(c:Nat->Nat->Int)(R:Nat->Nat->Prop)(hR:Ord R)(hcmp:∀j k,Zaa Tryz.prog g [elD v p j,elD v p k] (.int (c j k)))
  (L T:List Nat)(hb:L.Pairwise (ZhI c R))(hnd:L.Nodup)(hT:T.Perm L)(hTs:T.Pairwise R)(hN1:L.length<=19):
  Zag Tryz.prog 262 [.ref 1000 2 0 L.length L.length, .int L.length, .d (.fn g [])] [(1000, .row 2 (L.map (elD v p)))] (.tup []) [(1000, .row 2 (T.map (elD v p)))]:=by
 have hso:=Zzx v p g c R hR hcmp [] L [] T hb hnd hT hTs L.length (by simp) (by omega) 0 L.length rfl (by simp);rw[gU,yT,gU,yT]at hso;generalize L.length=N at*;refine kM Tryz.func262 ?_;intro B0 X0 w0;refine Zdn ?_;refine kw1 kO kc0 kc0 ?_;refine Zaf (λ(k:Nat)=>k=0) (λ k=>[(0, .ref 1000 2 0 N N),(1, .int N),(2, .d (.fn g [])),(6, .int 20),(7, .int 0),(8, .int 20)]) (λ k=>[(1000, .row 2 (L.map (elD v p)))]) (λ k=>0) 0 ?_ ?_ ?_
 ·rfl
 ·exact kN kc0 []
 ·rintro k rfl;refine kw1 kO kc0 (kc1 (kmc [] hso)) ?_;refine Zaf (λ(k:Nat)=>k=0) (λ k=>[(0, .ref 1000 2 0 N N),(1, .int N),(2, .d (.fn g [])),(6, .int 20)]) (λ k=>[(1000, .row 2 (T.map (elD v p)))]) (λ k=>0) 0 ?_ ?_ ?_
  ·rfl
  ·exact kN kc0 []
  ·rintro k rfl;refine kw1 kO kc0 kc0 ?_;refine⟨_,Zby.1 (kN (L:=[]) (M:=[(1000, .row 2 (T.map (elD v p)))]) kc0 []),?_⟩;exact⟨⟨[],rfl,trivial⟩,fmc ⟨rfl,fmn⟩⟩
theorem Zv8 (v:Nat->Int)(p:Nat->List D)(g:Nat)(c:Nat->Nat->Int)(R:Nat->Nat->Prop)(hR:Ord R)(hcmp:∀j k,Zaa Tryz.prog g [elD v p j,elD v p k] (.int (c j k)))
  (L T:List Nat)(hb:L.Pairwise (ZhI c R))(hnd:L.Nodup)(hT:T.Perm L)(hTs:T.Pairwise R)(hN1:L.length<=19):
  Zag Tryz.prog 244 [.ref 1000 2 0 L.length L.length, .d (.fn g [])] [(1000, .row 2 (L.map (elD v p)))] (.tup []) [(1000, .row 2 (T.map (elD v p)))]:=by
 have h1:=ZEz v p g c R hR hcmp L T hb hnd hT hTs hN1;refine kM Tryz.func244 ?_;intro B0 X0 w0;refine Zdn ?_;refine kw1 kO kc0 (kc1 (kmc [] h1)) ?_;refine⟨_,Zby.1 (kN (L:=[]) (M:=[(1000, .row 2 (T.map (elD v p)))]) kc0 []),?_⟩;exact⟨⟨[],rfl,trivial⟩,fmc ⟨rfl,fmn⟩⟩
end Go.Proofs.YtjjbhjnpeenbkaaGreatDoor
namespace Go.Proofs.YtjjbhjnpeenbkaaGreatDoor
open Go Go.PS Go.Proofs
open Go.Stb
def Zkt (y:List Int)(v:Int)(x:Arc):List Int:=(if x.1=v/\0<=placeF y x.2 then[placeF y x.2]else[])++(if x.2=v/\0<=placeF y x.1 then[placeF y x.1]else[])
def ZbK (y:List Int)(ar:List Arc)(v:Int):List Int:=ar.flatMap (Zkt y v)
theorem ZtG (y:List Int)(v:Int):∀ar:List Arc,(ZbK y ar v).length<=2*ar.length
 |[]=>by simp[ZbK]
 |x::ar=>by
  have ih:=ZtG y v ar;have:(Zkt y v x).length<=2:=by
   rw[Zkt];split<;>split<;>simp
  rw[ZbK]at ih|-;rw[gK,uG,yB];omega
def Zd5 (p:Nat->List Int)(T:List Nat)(k:Nat):Nat->Nat
 |0=>0
 |n+1=>if 0<Zcg (p ((T[n]?).getD 0)) (p k)then Zd5 p T k n else n+1
def ZiZ (p:Nat->List Int)(T:List Nat)(k:Nat):List Nat:=T.take (Zd5 p T k T.length)++k::T.drop (Zd5 p T k T.length)
def Zo4 (p:Nat->List Int)(l:List Nat):List Nat:=l.foldl (ZiZ p) []
theorem Zno (p:Nat->List Int)(T:List Nat)(k:Nat):∀n,Zd5 p T k n<=n
 |0=>uJ _
 |n+1=>by rw[Zd5];have:=Zno p T k n;split<;>omega
theorem ZrX (p:Nat->List Int)(T:List Nat)(k:Nat):(ZiZ p T k).Perm (k::T):=by
 rw[ZiZ];refine Bc.trans ?_;rw[gJ]
theorem Zq0 (p:Nat->List Int)(T:List Nat)(k:Nat):∀n,0<Zd5 p T k n->¬0<Zcg (p ((T[Zd5 p T k n-1]?).getD 0)) (p k)
 |0,h=>by rw[Zd5]at h;omega
 |n+1,h=>by
  rw[Zd5]at h|-;split
  ·rename_i c;rw[if_pos c]at h;exact Zq0 p T k n h
  ·rename_i c;exact c
theorem ZqZ (p:Nat->List Int)(T:List Nat)(k:Nat):∀n,Zd5 p T k n<n->0<Zcg (p ((T[Zd5 p T k n]?).getD 0)) (p k)
 |0,h=>by omega
 |n+1,h=>by
  rw[Zd5]at h|-;split
  ·rename_i c;rw[if_pos c]at h;by_cases c2:Zd5 p T k n<n
   ·exact ZqZ p T k n c2
   ·have:=Zno p T k n;have:Zd5 p T k n=n:=by omega
    rw[this];exact c
  ·rename_i c;rw[if_neg c]at h;omega
theorem Zzs {p:Nat->List Int}{T:List Nat}{k:Nat}(hs:T.Pairwise (Zgz p))(hk:∀j,j∈T->j<k):(ZiZ p T k).Pairwise (Zgz p):=by
 have hle:=Zno p T k T.length;refine ZB3 (Ztd p) hle hs (λ x h0 hx=>?_) (λ x hx=>?_)
 ·have:=Zq0 p T k T.length h0;rw[hx,yN]at this;exact .inr ⟨λ h=>this (by have:=Zne (p x) (p k);omega),hk x (uA hx)⟩
 ·have h1:=(uB.1 hx).1;have:=ZqZ p T k T.length h1;rw[hx,yN]at this;exact .inl (by have:=Zne (p k) (p x);omega)
theorem ZEm (p:Nat->List Int)(l:List Nat):(Zo4 p l).Perm l:=by
 have:∀(l T:List Nat),(l.foldl (ZiZ p) T).Perm (l++T):=by
  intro l
  induction l with
  |nil=>intro T;exact List.Perm.refl _
  |cons k l ih=>
   intro T;rw[jF];refine(ih _).trans (((ZrX p T k).append_left l).trans ?_);exact Bc
 have h:=this l [];rw[yT]at h;exact h
theorem ZEn {p:Nat->List Int}{l:List Nat}(hl:l.Pairwise (·<·)):(Zo4 p l).Pairwise (Zgz p):=by
 have:∀(l T:List Nat),T.Pairwise (Zgz p)->l.Pairwise (·<·)->(∀j,j∈T->∀k,k∈l->j<k)->(l.foldl (ZiZ p) T).Pairwise (Zgz p):=by
  intro l
  induction l with
  |nil=>intro T h _ _;exact h
  |cons k l ih=>
   intro T h1 h2 h3;rw[kV]at h2;rw[jF];refine ih _ (Zzs h1 λ j hj=>h3 j hj k (by simp)) h2.2 λ j hj q hq=>?_
   rcases yF.1 ((ZrX p T k).mem_iff.1 hj)with rfl|hj
   ·exact h2.1 q hq
   ·exact h3 j hj q (uO _ hq)
 exact this l [] List.Pairwise.nil hl (λ j hj=>by cases hj)
def Zc7 (y z:List Int)(ar:List Arc)(k:Nat):Bool:= !(ZbK z ar (at0 y k)).isEmpty
def Zbn (y z:List Int)(ar:List Arc)(n:Nat):List Nat:=(List.range n).filter (Zc7 y z ar)
def ZfB (y z:List Int)(ar:List Arc):List Nat:=Zo4 (λ k=>ZbK z ar (at0 y k)) (Zbn y z ar y.length)
def Zf6 (y z:List Int)(ar:List Arc):List Int:=(List.range y.length).map λ k=>if Zc7 y z ar k then at0 y (((ZfB y z ar)[(Zbn y z ar k).length]?).getD 0:Nat)else at0 y k
theorem Zlv (y z:List Int)(ar:List Arc)(n:Nat):Zbn y z ar (n+1)=if Zc7 y z ar n then Zbn y z ar n++[n]else Zbn y z ar n:=by
 rw[Zbn,qN,gC,jP,jX];split<;>simp[Zbn]
theorem ZjS (y z:List Int)(ar:List Arc)(n:Nat):(Zbn y z ar n).Pairwise (·<·):=Cg _ kK
theorem ZnG {y z:List Int}{ar:List Arc}{n k:Nat}(h:k∈Zbn y z ar n):k<n/\Zc7 y z ar k=true:=by
 rw[Zbn,zQ,uZ]at h;exact h
theorem ZiW {y z:List Int}{ar:List Arc}:∀{n k:Nat},k<n->Zc7 y z ar k=true->(Zbn y z ar n)[(Zbn y z ar k).length]? =some k
 |0,_,h,_=>by omega
 |n+1,k,h,hk=>by
  rcases uE k n with c|c
  ·have ih:=ZiW c hk;rw[Zlv];split
   ·rw[qE (uB.1 ih).1];exact ih
   ·exact ih
  ·have:k=n:=by omega
   subst this;rw[Zlv,if_pos hk,qF (uJ _),jD];rfl
theorem Zmf (y z:List Int)(ar:List Arc):(ZfB y z ar).Perm (Zbn y z ar y.length):=ZEm _ _
theorem ZuN (y z:List Int)(ar:List Arc):(ZfB y z ar).length=(Zbn y z ar y.length).length:=(Zmf y z ar).length_eq
def Zkm (y z:List Int)(ar:List Arc):List Nat:=(List.range y.length).map λ k=>if Zc7 y z ar k then((ZfB y z ar)[(Zbn y z ar k).length]?).getD 0 else k
theorem ZA6 (y z:List Int)(ar:List Arc):Zf6 y z ar=ZaO y (Zkm y z ar):=by
 rw[Zf6,ZaO,Zkm,gR];refine yM λ k _=>?_
 simp only[Function.comp_apply,at0,uM];split<;>rfl
theorem ZkA {y z:List Int}{ar:List Arc}{k:Nat}(hk:k<y.length)(h:Zc7 y z ar k=true):
  ∃t,(ZfB y z ar)[(Zbn y z ar k).length]? =some t/\t<y.length/\Zc7 y z ar t=true:=by
 have h1:=(uB.1 (ZiW hk h)).1;rw[<-ZuN]at h1;obtain⟨t,ht⟩:=Zac h1;have h2:=(Zmf y z ar).mem_iff.1 (uA ht);exact⟨t,ht,ZnG h2⟩
theorem Zs0 {l:List Nat}(hn:l.Nodup){i j x:Nat}(hi:l[i]? =some x)(hj:l[j]? =some x):i=j:=by
 obtain⟨i1,e1⟩:=uB.1 hi;obtain⟨j1,e2⟩:=uB.1 hj;have hp:=gO.1 hn;rcases jT i j with h|h|h
 ·exact absurd (e1.trans e2.symm) (hp i j i1 j1 h)
 ·exact h
 ·exact absurd (e2.trans e1.symm) (hp j i j1 i1 h)
theorem ZEl (y z:List Int)(ar:List Arc):(ZfB y z ar).Nodup:=
 (Zmf y z ar).nodup_iff.2 ((ZjS y z ar y.length).imp λ h=>Dg h)
theorem Zrz {y z:List Int}{ar:List Arc}{j k n:Nat}(hj:j<n)(hk:k<n)(h1:Zc7 y z ar j=true)(h2:Zc7 y z ar k=true)(he:(Zbn y z ar j).length=(Zbn y z ar k).length):j=k:=by
 have e1:=ZiW hj h1;have e2:=ZiW hk h2;rw[he,e2,yI]at e1;exact e1.symm
theorem ZBc (y z:List Int)(ar:List Arc):Go.Bd.Part y.length 0 (Zkm y z ar):=by
 refine⟨?_,λ v hv=>?_,by simp[Zkm]⟩
 ·rw[Zkm,List.nodup_iff_pairwise_ne,List.pairwise_map];refine List.Pairwise.imp_of_mem (R:=(·<·)) (λ{j k} hj hk hlt=>?_) kK;rw[uZ]at hj hk;rcases c1:Zc7 y z ar j with _|_<;>rcases c2:Zc7 y z ar k with _|_<;>simp only[if_true,jA,qD]
  ·omega
  ·obtain⟨t,h1,h2,h3⟩:=ZkA hk c2;rw[h1,yN];rintro rfl;rw[c1]at h3;cases h3
  ·obtain⟨t,h1,h2,h3⟩:=ZkA hj c1;rw[h1,yN];rintro rfl;rw[c2]at h3;cases h3
  ·obtain⟨t,h1,h2,h3⟩:=ZkA hj c1;obtain⟨u,g1,g2,g3⟩:=ZkA hk c2;rw[h1,g1,yN,yN];rintro rfl;have:=Zs0 (ZEl y z ar) h1 g1;have:=Zrz hj hk c1 c2 this;omega
 ·obtain⟨k,hk,rfl⟩:=uP.1 hv;rw[uZ]at hk;rcases c1:Zc7 y z ar k with _|_<;>simp only[if_true,jA,qD]
  ·exact hk
  ·obtain⟨t,h1,h2,h3⟩:=ZkA hk c1;rw[h1];exact h2
theorem Ztc {y:List Int}(hn:y.Nodup)(z:List Int)(ar:List Arc):(Zf6 y z ar).Perm y:=by
 rw[ZA6];exact ZoD hn (ZBc y z ar)
theorem ZA7 (y z:List Int)(ar:List Arc):(Zf6 y z ar).length=y.length:=by simp[Zf6]
def Zh6 (b:Lv)(i f:Nat):Lv:=Zcc b i (Zf6 (Zaw b.2.1 i) (Zaw b.2.1 f) b.2.2.1)
theorem Zsa {a b:Lv}(h:Kin a b){i:Nat}(hi:i<a.2.1.length)(f:Nat):Kin a (Zh6 b i f):=
 h.put (h.lay hi) (Ztc (Zj5 h.ok (h.lay hi)) _ _)
def ZdO (b:Lv):Nat->Lv
 |0=>b
 |k+1=>Zh6 (ZdO b k) (k+1) k
def upB (b:Lv)(n:Nat):Nat->Lv
 |0=>b
 |k+1=>Zh6 (upB b n k) (n-2-k) (n-1-k)
def swB (b:Lv):Lv:=upB (ZdO b (b.2.1.length-1)) b.2.1.length (b.2.1.length-1)
theorem Znr {a b:Lv}(h:Kin a b):∀k,k<=a.2.1.length-1->Kin a (ZdO b k)
 |0,_=>h
 |k+1,hk=>Zsa (Znr h k (by omega)) (by omega) k
theorem Zpq {a b:Lv}(h:Kin a b):∀k,k<=a.2.1.length-1->Kin a (upB b a.2.1.length k)
 |0,_=>h
 |k+1,hk=>Zsa (Zpq h k (by omega)) (by omega) _
theorem ZEP {a b:Lv}(h:Kin a b):Kin a (swB b):=by
 rw[swB,h.len];exact Zpq (Znr h _ (uJ _)) _ (uJ _)
def Zc9 (a:Lv):Nat->Lv
 |0=>a
 |k+1=>swB (Zc9 a k)
def Zbx (a:Lv):Nat->Lv
 |0=>a
 |k+1=>if Zbc (Zc9 a (k+1))<Zbc (Zbx a k)then Zc9 a (k+1)else Zbx a k
theorem Zoh {a:Lv}(hv:Zar a=true)(hw:wide a):∀k,Kin a (Zc9 a k)
 |0=>Kin.refl hv hw
 |k+1=>ZEP (Zoh hv hw k)
theorem Zm6 {a:Lv}(hv:Zar a=true)(hw:wide a):∀k,Kin a (Zbx a k)
 |0=>Kin.refl hv hw
 |k+1=>by
  rw[Zbx];split
  ·exact Zoh hv hw (k+1)
  ·exact Zm6 hv hw k
def ZgG (r:Int):Nat:=(min (max r 0) 100).toNat
def Zle (a:Lv)(r:Int):Lv×Int:=if Zar a then(Zbx a (ZgG r),Zbc (Zbx a (ZgG r)))else(lv0,0)
set_option maxRecDepth 100000
attribute [local irreducible] Zad wpG Zaa Zag
def Zf5 (x:Int):Bool:=decide (0<=x/\x<=1048576)
theorem ZAV (l:List Int):Zkk l=(decide (l.length<=4096)&&l.all Zf5):=rfl
theorem Zw4 {l:List Int}(h:∀x,x∈l->Zf5 x=true):0<=l.sum/\l.sum<=((l.length*1048576:Nat):Int):=
 Zr0 λ x hx=>by
  have:=h x hx;rw[Zf5,uF]at this;exact this
theorem ZEO {l:List Int}{k:Nat}{x:Int}(h:l[k]? =some x):(l.take (k+1)).sum=(l.take k).sum+x:=by
 rw[ZaA h,Ck];simp
theorem Zwk {l:List Int}{k:Nat}{x:Int}(h:l[k]? =some x)(hx:Zf5 x=false):l.all Zf5=false:=by
 rw[List.all_eq_false];exact⟨x,uA h,by rw[hx];decide⟩
theorem all_take {l:List Int}(h:∀x,x∈l.take l.length->Zf5 x=true):l.all Zf5=true:=by
 rw[yE]at h;rw[uX];exact h
theorem Zqw (l:List Int):Zaa Tryz.prog 263 [Zab l] (.tup [.int (Zbq l), .int (ZaH l)]):=by
 rw[Zbq,ZaH,ZAV];refine kE Tryz.func263 ?_;intro hat B X w0;by_cases hl:l.length<=4096
 ·refine kw1 kO kc0 kc0 ?_;refine Zaf (λ(k:Nat)=>k<=l.length/\(∀x,x∈l.take k->Zf5 x=true)) (λ k=>[(0, .d (Zab l)),(4, .int (l.take k).sum),(10, .d (Zab l)),(11, .int l.length),(12, .int k)]) (λ k=>[]) (λ k=>l.length-k) 0 ?_ ?_ ?_
  ·exact⟨uH _,λ x hx=>by rw[yX]at hx;cases hx⟩
  ·exact kN (kc2 @yX.{0} @List.sum_nil.{0}) []
  ·rintro k ⟨hk,hinv⟩;have hb:=Zw4 hinv;rw[yJ,jE hk]at hb;rcases uE k l.length with hlt|hge
   ·obtain⟨x,hx⟩:=Zac hlt;have e1:=ZEO hx;by_cases c:0<=x/\x<=1048576
    ·obtain⟨c1,c2⟩:=c;refine kw1 kO (kc1 hx) kc0 ?_;refine⟨k+1,?_,kN (kc1 e1) [],?_⟩
     ·refine⟨by omega,λ y hy=>?_⟩;rw[ZaA hx]at hy;rcases yK.1 hy with hy|hy
      ·exact hinv y hy
      ·rw[uS.1 hy,Zf5,yD ⟨c1,c2⟩]
     ·omega
    ·rw[Zwk hx (by rw[Zf5,uV c]),Ag,if_neg (by decide),if_neg (by decide)];refine kw kO (kc1 hx) kc0 ?_
     repeat' first|exact True.intro|refine Bn.mk ?_ ?_|intro hc
     all_goals exact⟨_,rfl,Zai rfl,Zai rfl,trivial⟩
   ·have:k=l.length:=by omega
    subst this;rw[all_take hinv,yD hl,kH,if_pos rfl,if_pos rfl];refine kw1 kO kc0 kc0 ?_;refine⟨_,rfl,Zai ?_,Zai rfl,trivial⟩;rw[yE]
 ·rw[uV hl,Af,if_neg (by decide),if_neg (by decide)];have hl2:=ZaJ 0 hat rfl;rw[uC]at hl2;refine kw1 kO kc0 kc0 ?_;exact⟨_,rfl,Zai rfl,Zai rfl,trivial⟩
theorem ZrZ (a:Int):Zaa Tryz.prog 282 [.int a] (.bool false):=by
 refine kE Tryz.func282 ?_;intro hat B X w0;refine kw1 kO kc0 kc0 ?_;exact Zah (by simp)
theorem Zni (a b:Int):Zaa Tryz.prog 264 [.int a, .int b] (.int (sg a b)):=by
 have h1:=ZrZ a;have h2:=ZrZ b;rw[sg];refine kE Tryz.func264 ?_;intro hat B X w0;by_cases c1:a<b
 ·rw[if_pos c1];refine kw1 kO (kc1 c1) (kc2 h1 h2) ?_;exact Zai rfl
 ·rw[if_neg c1];by_cases c2:b<a
  ·rw[if_pos c2];refine kw1 kO (kc2 c1 c2) (kc2 h1 h2) ?_;exact Zai rfl
  ·rw[if_neg c2];refine kw1 kO (kc2 c1 c2) (kc2 h1 h2) ?_;exact Zai rfl
theorem ZsN (n:Nat):(if(1:Int)<n then(1:Int)else(n:Int))=((min n 1:Nat):Int):=by split<;>omega
theorem ZwI (a b:List Int):Zaa Tryz.prog 246 [Zab a,Zab b] (.int (Zcg a b)):=by
 have h1:=Zqw a;have h2:=Zqw b;have h4:=Zni (Zbq a*ZaH b) (Zbq b*ZaH a);have p1:=ZtK a b;have p2:=ZtK b a;rw[Zcg];have m1:=ZsN (ZaH a);have m2:=ZsN (ZaH b);have z0:((min 0 1:Nat):Int)=0:=rfl;generalize Zbq a=S at*;generalize Zbq b=T at*;generalize ZaH a=j at*;generalize ZaH b=k at*;refine kE Tryz.func246 ?_;intro hat B X w0;by_cases c1:j=0
 ·rw[if_pos (.inl c1),c1,z0];rw[c1]at h1;have h3:=Zni 0 ((min k 1:Nat):Int);have q1:((0:Nat):Int)=0:=rfl;refine kw1 kO (kc2 q1 m2) (kc3 h1 h2 h3) ?_;exact Zai rfl
 ·by_cases c2:k=0
  ·rw[if_pos (.inr c2),c2,z0];rw[c2]at h2;have h3:=Zni ((min j 1:Nat):Int) 0;have q1:((0:Nat):Int)=0:=rfl;have c1I:¬(j:Int)=0:=by omega
   refine kw1 kO (kc3 q1 m1 c1I) (kc3 h1 h2 h3) ?_;exact Zai rfl
  ·rw[if_neg (by omega)];refine kw1 kO kc0 (kc3 h1 h2 h4) ?_;exact Zai rfl
theorem ZwZ (u v:Int)(a b:List Int):Zaa Tryz.prog 245 [.ag [.int u,Zab a], .ag [.int v,Zab b]] (.int (Zcg a b)):=by
 have h1:=ZwI a b;refine kE Tryz.func245 ?_;intro hat B X w0;refine kw1 kO kc0 (kc1 h1) ?_;exact Zai rfl
theorem Zps {a:Lv}(h:Zar a=true){v:Int}(hv:v∈a.2.1.flatten):0<=v/\v<tot a.2.1:=by
 obtain⟨_,_,hr⟩:=Zgf h;obtain⟨_,_,hg,_⟩:=Zhj hr;exact(Zgv.1 hg).1 v hv
theorem Zws {a:Lv}(h:Zar a=true){x:Arc}(hx:x∈a.2.2.1):x.1≠x.2/\(0<=x.1/\x.1<tot a.2.1)/\(0<=x.2/\x.2<tot a.2.1):=by
 obtain⟨k,hk⟩:=yU hx;obtain⟨r,p,q,h1,h2⟩:=Zpr h hk;refine⟨λ e=>?_,Zps h h1.mem,Zps h h2.mem⟩;rw[<-e]at h2;have:=ZbT.layer (Zfj h) h1 h2;omega
theorem ZBP {z:List Int}{ar:List Arc}{v:Int}{k:Nat}{x:Arc}(h:ar[k]? =some x):ZbK z (ar.take (k+1)) v=ZbK z (ar.take k) v++Zkt z v x:=by
 rw[ZbK,ZbK,ZaA h,List.flatMap_append,gK,Bb,yT]
theorem Zw2 (a:Lv)(v:Int)(z pl:List Int)(har:a.2.2.1.length<=1000)(hpl:∀u:Int,0<=u->u<pl.length->pl[u.toNat]? =some (placeF z u))
  (hx:∀x,x∈a.2.2.1->x.1≠x.2/\(0<=x.1/\x.1<pl.length)/\(0<=x.2/\x.2<pl.length)):
  Zaa Tryz.prog 243 [lvD a, .int v,Zab pl] (Zab (ZbK z a.2.2.1 v)):=by
 obtain⟨n,ls,ar,cs⟩:=a;dsimp only at har hx|-;refine kE Tryz.func243 ?_;intro hat B X w0;refine kw1 kO kc0 kc0 ?_;refine Zao _ (Zcy 7 901 1 rfl rfl) ?_;refine Zaf (λ(k:Nat)=>k<=ar.length) (λ k=>[(1, .int v),(2, .d (Zab pl)),(7, .ref 901 1 0 (ZbK z (ar.take k) v).length (ZbK z (ar.take k) v).length),(11, .d (Zaj ar)),(12, .int ar.length),(13, .int k)]) (λ k=>[(901, .row 1 ((ZbK z (ar.take k) v).map D.int))]) (λ k=>ar.length-k) 0 ?_ ?_ ?_
 ·exact uH _
 ·exact kN (kc5 @yX.{0} @ZbK.eq_1 @Bb.{0,0} @yH.{0,0} @uY.{0}) []
 ·intro k hk;have hRl:=ZtG z v (ar.take k);rw[yJ,jE hk]at hRl;rcases uE k ar.length with hlt|hge
  ·obtain⟨x,hxk⟩:=Zac hlt;obtain⟨hne,⟨b1,b2⟩,⟨b3,b4⟩⟩:=hx x (uA hxk);have g1:=hpl x.1 b1 b2;have g2:=hpl x.2 b3 b4;have e1:=ZBP (z:=z) (v:=v) hxk;rw[Zkt]at e1;generalize ZbK z (ar.take k) v=R at*;generalize placeF z x.1=q1 at*;generalize placeF z x.2=q2 at*;obtain⟨s,t⟩:=x;dsimp only at*;have htl:(R.map D.int).take R.length=R.map D.int:=Zal _ _;have i1:s.toNat<pl.length:=by omega
   have i2:t.toNat<pl.length:=by omega
   by_cases c1:s=v/\0<=q2
   ·obtain⟨c1,c2⟩:=c1;have c3:¬t=v:=λ e=>hne (c1.trans e.symm)
    rw[if_pos ⟨c1,c2⟩,if_neg (λ h=>c3 h.1),yT]at e1;refine kw1 kO (kc8 hxk g1 g2 i1 i2 b1 b2 (kc6 b3 b4 c1 c2 c3 htl)) kc0 ?_;refine⟨k+1,?_,kN (kc8 e1 @uQ.{0,0} @uT.{0,0} @yH.{0,0} @uG.{0} @yB.{0} @uY.{0} (kc2 @qT htl)) [(901,36)],?_⟩
    ·omega
    ·omega
   ·by_cases c4:t=v/\0<=q1
    ·obtain⟨c4,c5⟩:=c4;have c3:¬s=v:=λ e=>hne (e.trans c4.symm)
     rw[if_neg c1,if_pos ⟨c4,c5⟩,gU]at e1;refine kw1 kO (kc8 hxk g1 g2 i1 i2 b1 b2 (kc6 b3 b4 c3 c4 c5 htl)) kc0 ?_;refine⟨k+1,?_,kN (kc8 e1 @uQ.{0,0} @uT.{0,0} @yH.{0,0} @uG.{0} @yB.{0} @uY.{0} (kc2 @qT htl)) [(901,56)],?_⟩
     ·omega
     ·omega
    ·rw[if_neg c1,if_neg c4,gU,yT]at e1;refine kw kO (kc8 hxk g1 g2 i1 i2 b1 b2 (kc3 b3 b4 htl)) kc0 ?_
     repeat' first|exact True.intro|refine Bn.mk ?_ ?_|intro hc
     all_goals
      refine⟨k+1,?_,kN (kc1 e1) [],?_⟩
      ·omega
      ·omega
  ·have:k=ar.length:=by omega
   subst this;rw[yE]at hRl|-;refine kw1 kO kc0 kc0 ?_;exact ZbF (o:=901) rfl rfl (by simp) (Zal _ _)
theorem Zui {g:Nat->Int}{n j:Nat}{x:Int}:(Zbb g n).set j x=Zbb (λ u=>if u=j then x else g u) n:=by
 refine qA λ v=>?_
 rw[qL,ZeG];by_cases c:v<n
 ·rw[Zf9 c,Zf9 c];by_cases c2:j=v
  ·subst c2;rw[if_pos rfl,if_pos c,if_pos rfl]
  ·rw[if_neg c2,if_neg (λ h=>c2 h.symm)]
 ·rw[uN (by rw[ZeG];omega),uN (by rw[ZeG];omega)];by_cases c2:j=v
  ·rw[if_pos c2,if_neg (by omega)]
  ·rw[if_neg c2]
theorem ZBL {z:List Int}(hn:z.Nodup){k:Nat}{v:Int}(h:z[k]? =some v)(u:Int):placeF (z.take (k+1)) u=if u=v then(k:Int)else placeF (z.take k) u:=by
 have hn1:(z.take (k+1)).Nodup:=hn.sublist (List.take_sublist _ _);have hn0:(z.take k).Nodup:=hn.sublist (List.take_sublist _ _);by_cases c:u=v
 ·subst c;rw[if_pos rfl];exact Zjc hn1 (by rw[qH,if_pos (by omega)];exact h)
 ·rw[if_neg c];by_cases c2:u∈z.take k
  ·obtain⟨j,hj⟩:=yU c2;rw[Zjc hn0 hj];have hjk:j<k:=by have:=(uB.1 hj).1;rw[yJ]at this;omega
   refine Zjc hn1 ?_;rw[qH,if_pos hjk]at hj;rw[qH,if_pos (by omega)];exact hj
  ·rw[Zkr c2,Zkr];rw[ZaA h];intro hm;rcases yK.1 hm with hm|hm
   ·exact c2 hm
   ·exact c (uS.1 hm)
def Zf7 (y z:List Int)(ar:List Arc)(q:Nat):List Int:=Zbb (λ k=>if Zc7 y z ar k=true/\(Zbn y z ar k).length<q then at0 y (((ZfB y z ar)[(Zbn y z ar k).length]?).getD 0:Nat)else at0 y k) y.length
theorem ZA9 (y z:List Int)(ar:List Arc)(q:Nat):(Zf7 y z ar q).length=y.length:=ZeG _ _
theorem ZBb (y z:List Int)(ar:List Arc):Zf7 y z ar 0=y:=by
 have:Zf7 y z ar 0=Zbb (λ k:Nat=>at0 y k) y.length:=Zhl λ k _=>if_neg (by omega)
 rw[this];refine qA λ k=>?_
 by_cases c:k<y.length
 ·rw[Zf9 c,ZaG c]
 ·rw[uN (by rw[ZeG];omega),uN (by omega)]
theorem ZA8 (y z:List Int)(ar:List Arc):Zf7 y z ar (Zbn y z ar y.length).length=Zf6 y z ar:=by
 refine yM λ k hk=>?_
 rw[uZ]at hk;rcases c:Zc7 y z ar k with _|_
 ·simp
 ·have:=(uB.1 (ZiW hk c)).1;simp[this]
theorem ZBa {y z:List Int}{ar:List Arc}{q j t:Nat}(hj:(Zbn y z ar y.length)[q]? =some j)(ht:(ZfB y z ar)[q]? =some t):(Zf7 y z ar q).set j (at0 y t)=Zf7 y z ar (q+1):=by
 have h1:=ZnG (uA hj);have h2:=ZiW h1.1 h1.2;have hq:(Zbn y z ar j).length=q:=by
  exact(Zs0 ((ZjS y z ar y.length).imp λ h=>Dg h) hj h2).symm
 rw[Zf7,Zui];refine Zhl λ k hk=>?_
 by_cases c:k=j
 ·subst c;rw[if_pos rfl,if_pos ⟨h1.2,by omega⟩,hq,ht];rfl
 ·rw[if_neg c];by_cases c2:Zc7 y z ar k=true
  ·have:(Zbn y z ar k).length≠q:=λ e=>c (Zrz hk h1.1 c2 h1.2 (by omega))
   by_cases c3:(Zbn y z ar k).length<q
   ·rw[if_pos ⟨c2,c3⟩,if_pos ⟨c2,by omega⟩]
   ·rw[if_neg (λ h=>c3 h.2),if_neg (λ h=>by have:=h.2;omega)]
  ·rw[if_neg (λ h=>c2 h.1),if_neg (λ h=>c2 h.1)]
theorem ZrA (y z:List Int)(ar:List Arc):∀n,(Zbn y z ar n).length<=n
 |0=>by simp[Zbn]
 |n+1=>by
  have:=ZrA y z ar n;rw[Zlv];split
  ·rw[uG,yL];omega
  ·omega
theorem Ztf (a:Lv)(i f:Nat)(hw:wide a)(hv:Zar a=true)(har:a.2.2.1.length<=700)(hi:i<a.2.1.length)(hf:f<a.2.1.length):
  Zaa Tryz.prog 215 [lvD a, .int i, .int f] (lvD (Zh6 a i f)):=by
 obtain⟨y,hy⟩:=Zac hi;obtain⟨z,hz⟩:=Zac hf;have hyn:=Zj5 hv hy;have hzn:=Zj5 hv hz;obtain⟨t1,t2⟩:=ZcV hv;have hyl:=Zdq (uA hy);have hyw:=hw y (uA hy);have hzl:=Zdq (uA hz);have hzr:∀(k:Nat) v,z[k]? =some v->0<=v/\v<tot a.2.1:=λ k v hk=>Zps hv (zK.2 ⟨z,uA hz,uA hk⟩)
 have hpl:∀v,Zaa Tryz.prog 243 [lvD a, .int v,Zab (Zbb (λ u:Nat=>placeF z u) (tot a.2.1))] (Zab (ZbK z a.2.2.1 v)):=λ v=>
  Zw2 a v z _ (by omega) (λ u h0 h1=>by
   rw[ZeG]at h1;rw[Zf9 (by omega),show((u.toNat:Nat):Int)=u by omega]) (λ x hx=>by
   rw[ZeG];exact Zws hv hx)
 have hre:=ZpO a i (Zf6 y z a.2.2.1) hw (by rw[ZA7];omega);rw[ZoP hv hy (Ztc hyn z a.2.2.1)]at hre;have hlay:Zh6 a i f=Zcc a i (Zf6 y z a.2.2.1):=by rw[Zh6,ZdV hy,ZdV hz]
 rw[<-hlay]at hre;have hcl:=ZxA y (by omega);have hFl:=ZrA y z a.2.2.1;have hbk:(Zbn y z a.2.2.1 y.length).Pairwise (ZhI (λ j k:Nat=>Zcg (ZbK z a.2.2.1 (at0 y j)) (ZbK z a.2.2.1 (at0 y k))) (Zgz λ k:Nat=>ZbK z a.2.2.1 (at0 y k))):=by
  refine List.Pairwise.imp ?_ (ZjS y z a.2.2.1 y.length);intro j k h;exact ZBd (p:=λ k:Nat=>ZbK z a.2.2.1 (at0 y k)) h
 have hso:=Zv8 (λ k:Nat=>at0 y k) (λ k:Nat=>(ZbK z a.2.2.1 (at0 y k)).map D.int) 245 (λ j k:Nat=>Zcg (ZbK z a.2.2.1 (at0 y j)) (ZbK z a.2.2.1 (at0 y k))) (Zgz λ k:Nat=>ZbK z a.2.2.1 (at0 y k)) (Ztd _)
  (λ j k=>ZwZ _ _ _ _) (Zbn y z a.2.2.1 y.length) (ZfB y z a.2.2.1) hbk ((ZjS y z a.2.2.1 y.length).imp λ h=>Dg h)
  (Zmf y z a.2.2.1) (ZEn (ZjS y z a.2.2.1 y.length)) (by have:=hFl y.length;omega)
 have hSl:=ZuN y z a.2.2.1;have hO0:=ZBb y z a.2.2.1;have hOf:=ZA8 y z a.2.2.1;have hOl:=ZA9 y z a.2.2.1;have hOs:∀q j t:Nat,(Zbn y z a.2.2.1 y.length)[q]? =some j->(ZfB y z a.2.2.1)[q]? =some t->(Zf7 y z a.2.2.1 q).set j (at0 y t)=Zf7 y z a.2.2.1 (q+1):=λ q j t=>ZBa
 have hFs:=Zlv y z a.2.2.1;have hF0:Zbn y z a.2.2.1 0=[]:=rfl;have hFm:∀q j:Nat,(Zbn y z a.2.2.1 y.length)[q]? =some j->j<y.length:=λ q j h=>(ZnG (uA h)).1
 have hH:∀k:Nat,Zc7 y z a.2.2.1 k=decide (0<(ZbK z a.2.2.1 (at0 y k)).length):=λ k=>by
  rw[Zc7];cases ZbK z a.2.2.1 (at0 y k)<;>simp
 obtain⟨C,hC⟩:∃C,C=tot a.2.1:=⟨_,rfl⟩;rw[<-hC]at hpl hzr t2;clear hlay hbk;generalize Zh6 a i f=PP at*;generalize hPQ:(λ k:Nat=>ZbK z a.2.2.1 (at0 y k))=PQ at*;have hPQe:∀k:Nat,ZbK z a.2.2.1 (at0 y k)=PQ k:=λ k=>by rw[<-hPQ]
 have hplk:∀k:Nat,Zaa Tryz.prog 243 [lvD a, .int (at0 y k),Zab (Zbb (λ u:Nat=>placeF z u) C)] (Zab (PQ k)):=λ k=>by rw[<-hPQe];exact hpl _
 simp only[hPQe]at hso hH;clear hpl hPQ hPQe;generalize Zbn y z a.2.2.1=F at*;generalize ZfB y z a.2.2.1=T at*;generalize Zf7 y z a.2.2.1=ON at*;generalize Zf6 y z a.2.2.1=OBv at*;simp only[hH]at hFs;clear hH;obtain⟨n',ls',ar',cs'⟩:=PP;obtain⟨n,ls,ar,cs⟩:=a;dsimp only at*;have htk:=Zjr ls;refine kE Tryz.func215 ?_;intro hat B X w0;refine kw1 kO kc0 kc0 ?_;refine Zaf (λ(k:Nat)=>k<=ls.length) (λ k=>[(1, .int i),(2, .int f),(3, .ptr 3 0 0 0),(6, .ptr 6 0 0 0),(7, .int (tot (ls.take k))),(25, .d (Zae ls)),(26, .int ls.length),(27, .int k)]) (λ k=>[(3, .cells [.int n, .d (Zae ls), .d (Zaj ar), .d (Zae cs)]),(6, .cells [.int 0, .nilS, .nilS, .nilS])]) (λ k=>ls.length-k) 0 ?_ ?_ ?_
 ·exact uH _
 ·exact kN (kc2 @yX.{0} @tot.eq_1) []
 ·intro k hk;have hle:=htk k;rcases uE k ls.length with hlt|hge
  ·obtain⟨x,hx⟩:=Zac hlt;have e1:=ZkI hx;have hle2:=htk (k+1);refine kw1 kO (kc1 hx) kc0 ?_;refine⟨k+1,?_,kN (kc2 e1 @qQ) [],?_⟩
   ·omega
   ·omega
  ·have:k=ls.length:=by omega
   subst this
   try dsimp only
   rw[yE,<-hC];have hz0:List.replicate C (D.int 0)=(ZcO (λ _=>0) (λ _=>-1) C 0).map D.int:=by rw[ZsR,Zuj]
   refine kw1 kO kc0 kc0 ?_;refine Zaf (λ(k:Nat)=>k<=C) (λ k=>[(1, .int i),(2, .int f),(3, .ptr 3 0 0 0),(6, .ptr 6 0 0 0),(10, .ref 37 1 0 C C),(39, .int C),(40, .int k)]) (λ k=>[(3, .cells [.int n, .d (Zae ls), .d (Zaj ar), .d (Zae cs)]),(6, .cells [.int 0, .nilS, .nilS, .nilS]),(37, .row 1 ((ZcO (λ _=>0) (λ _=>-1) C k).map D.int))]) (λ k=>C-k) 0 ?_ ?_ ?_
   ·exact uH _
   ·exact kN (kc1 hz0) []
   ·intro k hk;have hml:=Zkd (λ _=>0) (λ _=>-1) C k;rcases uE k C with hlt|hge
    ·have hg:(ZcO (λ _=>0) (λ _=>-1) C k)[k]? =some 0:=ZsP hlt;have hs2:((ZcO (λ _=>0) (λ _=>-1) C k).map D.int).set k (D.int (-1))=(ZcO (λ _=>0) (λ _=>-1) C (k+1)).map D.int:=by rw[<-ZsQ hlt,yZ]
     refine kw1 kO (kc3 hg hml hs2) kc0 ?_;refine⟨k+1,?_,kN (kc1 hs2) [],?_⟩
     ·omega
     ·omega
    ·have:k=C:=by omega
     subst this;have hz1:ZcO (λ _=>0) (λ _=>-1) k k=Zbb (λ u:Nat=>placeF (z.take 0) u) k:=by rw[ZsO];exact Zhl λ v _=>rfl
     try dsimp only
     rw[hz1];refine kw1 kO (kc1 hz) kc0 ?_;refine Zaf (λ(j:Nat)=>j<=z.length) (λ j=>[(1, .int i),(3, .ptr 3 0 0 0),(6, .ptr 6 0 0 0),(10, .ref 37 1 0 k k),(51, .d (Zab z)),(52, .int z.length),(53, .int j)]) (λ j=>[(3, .cells [.int n, .d (Zae ls), .d (Zaj ar), .d (Zae cs)]),(6, .cells [.int 0, .nilS, .nilS, .nilS]),(37, .row 1 ((Zbb (λ u:Nat=>placeF (z.take j) u) k).map D.int))]) (λ j=>z.length-j) 0 ?_ ?_ ?_
     ·exact uH _
     ·exact kN kc0 []
     ·intro j hj;have hml:=ZeG (λ u:Nat=>placeF (z.take j) u) k;rcases uE j z.length with hlt|hge
      ·obtain⟨v,hv1⟩:=Zac hlt;obtain⟨v1,v2⟩:=hzr j v hv1;obtain⟨v,rfl⟩:∃m:Nat,v=m:=⟨v.toNat,by omega⟩;have hg:(Zbb (λ u:Nat=>placeF (z.take j) u) k)[v]? =some (placeF (z.take j) v):=Zf9 (by omega);have hs1:(Zbb (λ u:Nat=>placeF (z.take j) u) k).set v (j:Int)=Zbb (λ u:Nat=>placeF (z.take (j+1)) u) k:=by
        rw[Zui];refine Zhl λ u hu=>?_
        rw[ZBL hzn hv1];by_cases c:u=v
        ·subst c;rw[if_pos rfl,if_pos rfl]
        ·rw[if_neg c,if_neg (by omega)]
       have hs2:((Zbb (λ u:Nat=>placeF (z.take j) u) k).map D.int).set v (D.int j)=(Zbb (λ u:Nat=>placeF (z.take (j+1)) u) k).map D.int:=by rw[<-hs1,yZ]
       refine kw1 kO (kc4 hv1 hg hml hs2) kc0 ?_;refine⟨j+1,?_,kN (kc1 hs2) [],?_⟩
       ·omega
       ·omega
      ·have:j=z.length:=by omega
       subst this
       try dsimp only
       rw[yE];refine Zao _ (Zc5 37 1 ((Zbb (λ u:Nat=>placeF z u) k).map D.int) rfl (ZcW _ rfl) (by decide)) ?_;have htl:((Zbb (λ u:Nat=>placeF z u) k).map D.int).take k=(Zbb (λ u:Nat=>placeF z u) k).map D.int:=uD (by rw[uC,ZeG];exact uJ _);have hPl:=ZeG (λ u:Nat=>placeF z u) k;refine kw1 kO (kc4 hy htl hPl @qR.{0}) (kc1 (kmc [(2000,903)] hcl)) ?_;refine Zao _ (Zcy 15 901 1 rfl rfl) ?_;refine Zao _ (Zcy 16 902 2 rfl rfl) ?_;refine Zaf (λ(q:Nat)=>q<=y.length) (λ q=>[(1, .int i),(3, .ptr 3 0 0 0),(6, .ptr 6 0 0 0),(10, .d (Zab (Zbb (λ u:Nat=>placeF z u) k))),(14, .ref 903 1 0 y.length y.length),(15, .ref 901 1 0 (F q).length (F q).length),(16, .ref 902 2 0 (F q).length (F q).length),(69, .ref 903 1 0 y.length y.length),(70, .int y.length),(71, .int q)]) (λ q=>[(3, .cells [.int n, .d (Zae ls), .d (Zaj ar), .d (Zae cs)]),(6, .cells [.int 0, .nilS, .nilS, .nilS]),(901, .row 1 ((F q).map Zam)),(902, .row 2 ((F q).map (elD (λ k:Nat=>at0 y k) λ k=>(PQ k).map D.int))),(903, .row 1 (y.map D.int))]) (λ q=>y.length-q) 0 ?_ ?_ ?_
       ·exact uH _
       ·exact kN (kc6 hF0 @yH.{0,0} @uY.{0} htl hPl @uJ) []
       ·intro q hq;have hql:=hFl q;rcases uE q y.length with hlt|hge
        ·have gq:=ZaG (r:=y) (i:=q) hlt;have hp:=hplk q;have e1:=hFs q;have h1:((F q).map Zam).take (F q).length=(F q).map Zam:=Zal _ _;have h2:((F q).map (elD (λ k:Nat=>at0 y k) λ k=>(PQ k).map D.int)).take (F q).length=(F q).map (elD (λ k:Nat=>at0 y k) λ k=>(PQ k).map D.int):=Zal _ _;by_cases c:0<(PQ q).length
         ·rw[yD c,if_pos rfl]at e1
          repeat' first|refine ZbQ rfl ?_|refine Za7 ?_|refine wR ?_|(refine rc (hp) rfl ?_ ?_;(· first|rfl|simp(disch:=omega) only[go_sem,simprocAttr,gq,c,h1,h2,roomy]))|(refine ZbY rfl rfl (λ hc=>?_) (λ hc=>?_)<;>try simp only[hcL]at hc)|(refine ZbW _ rfl rfl (λ hc=>?_) (λ hc=>?_)<;>(try simp only[hcL]at hc)<;>try omega)|simp(disch:=omega) only[go_sem,simprocAttr,gq,c,h1,h2,roomy]|(first|exact Zhg _|exact λ d hd=>by rw[uS.1 hd];rfl)|apply And.intro|omega|decide+kernel
          refine⟨q+1,?_,kN (kc8 e1 h1 h2 @uQ.{0,0} @uT.{0,0} @yH.{0,0} @uG.{0} (kc3 @yB.{0} @uY.{0} @qT)) [(901,86),(902,92)],?_⟩
          ·omega
          ·omega
         ·rw[uV c,if_neg (by decide)]at e1;refine kw1 kO (kc2 gq c) (kc1 hp) ?_;refine⟨q+1,?_,kN (kc1 e1) [],?_⟩
          ·omega
          ·omega
        ·have:q=y.length:=by omega
         subst this;refine kw1 kO kc0 (kc1 (kmc [(1000,902)] hso)) ?_;refine Zaf (λ(q:Nat)=>q<=(F y.length).length) (λ q=>[(1, .int i),(3, .ptr 3 0 0 0),(6, .ptr 6 0 0 0),(14, .ref 903 1 0 y.length y.length),(15, .ref 901 1 0 (F y.length).length (F y.length).length),(96, .ref 902 2 0 (F y.length).length (F y.length).length),(97, .int (F y.length).length),(98, .int q)]) (λ q=>[(3, .cells [.int n, .d (Zae ls), .d (Zaj ar), .d (Zae cs)]),(6, .cells [.int 0, .nilS, .nilS, .nilS]),(901, .row 1 ((F y.length).map Zam)),(902, .row 2 (T.map (elD (λ k:Nat=>at0 y k) λ k=>(PQ k).map D.int))),(903, .row 1 ((ON q).map D.int))]) (λ q=>(F y.length).length-q) 0 ?_ ?_ ?_
         ·exact uH _
         ·exact kN (kc1 hO0) []
         ·intro q hq;have hol:=hOl q;rcases uE q (F y.length).length with hlt|hge
          ·obtain⟨j,hj⟩:=Zac hlt;obtain⟨t,ht⟩:=Zac (l:=T) (k:=q) (by omega);have hjy:=hFm q j hj;have hs1:=hOs q j t hj ht;obtain⟨w,hw1⟩:=Zac (l:=ON q) (k:=j) (by omega);have hs2:((ON q).map D.int).set j (D.int (at0 y t))=(ON (q+1)).map D.int:=by rw[<-hs1,yZ]
           refine kw1 kO (kc6 hj ht hw1 hol hSl hs2) kc0 ?_;refine⟨q+1,?_,kN (kc1 hs2) [],?_⟩
           ·omega
           ·omega
          ·have:q=(F y.length).length:=by omega
           subst this
           try dsimp only
           rw[hOf]at hol|-;refine Zao _ (Zc5 903 1 (OBv.map D.int) rfl (ZcW _ rfl) (by decide)) ?_;have htl2:(OBv.map D.int).take y.length=OBv.map D.int:=by rw[<-hol];exact Zal _ _
           refine kw1 kO (kc3 htl2 hol @qR.{0}) (kc1 hre) ?_;refine⟨_,_,_,_,rfl,?_⟩;simp(disch:=omega) only[go_sem,simprocAttr,toD]
end Go.Proofs.YtjjbhjnpeenbkaaGreatDoor
