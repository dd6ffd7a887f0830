/- The reference: validity, turned arcs, acyclic digraphs, sets that break the cycles. -/
import Derived.Test.YtjjbhjnpeenbkaaGreatDoorCyA
import Derived.Test.YtjjbhjnpeenbkaaGreatDoorPSCmp
set_option linter.unusedSimpArgs false
set_option linter.unusedVariables false
set_option maxHeartbeats 16000000
namespace Go.Proofs.YtjjbhjnpeenbkaaGreatDoor.Cyc
open Go Go.PS Go.Proofs
open Go.Cy (NA InN Za5 Zfm Acy Src ZfF ZjB Asc)
set_option maxRecDepth 100000
attribute [local irreducible] Zad wpG Zaa Zag
theorem ZtZ (g:Gr):Zaa Tryz.prog 86 [gD g] (.bool (gOk g)):=by
 obtain⟨n,l⟩:=g;refine kE Tryz.func86 ?_;intro hat B X w0;have hl:=Zcf 0 1 hat rfl rfl;rw[uC]at hl;refine kw kO kc0 kc0 ?_
 repeat' first|exact True.intro|refine Bn.mk ?_ ?_|intro hc
 all_goals try (refine Zah ?_;simp[gOk];omega)
 refine Zaf (λ(k:Nat)=>k<=l.length/\∀(j:Nat) y,j<k->l[j]? =some y->(!ZeY n y)=false) (λ k=>[(1, .ptr 1 0 0 0),(3, .int k)]) (λ k=>[(1, .cells [.int n, .d (Zaj l)])]) (λ k=>l.length-k) 0 ?_ ?_ ?_
 ·exact⟨uH _,λ j y h=>by omega⟩
 ·exact kN kc0 []
 ·rintro k ⟨hk,hinv⟩;rcases uE k l.length with hlt|hge
  ·obtain⟨p,hp⟩:=Zac hlt;refine kw kO (kc1 hp) kc0 ?_
   repeat' first|exact True.intro|refine Bn.mk ?_ ?_|intro hc
   all_goals try
    refine Zah ?_;rw[gOk,ZcE hp (by simp[ZeY];omega)];simp
   ·refine⟨k+1,?_,eL [] _ _ (by refine⟨?_,?_⟩<;>(repeat' first|exact fmn|refine fmc ⟨(by first|rfl|(simp(disch:=omega) only[go_sem,simprocAttr,inL];first|done|omega|(congr 1;done))),?_⟩);done),?_⟩
    ·exact⟨by omega,Zbr hinv hp (by simp[ZeY];omega)⟩
    ·omega
  ·refine kw1 kO kc0 kc0 ?_;refine Zah ?_;rw[gOk,Zc2 (λ j y hj=>hinv j y (by omega))];simp;omega
theorem ZyM {l:List NA}{t:List Nat}{k x:Nat}{a:NA}(ht:t[k]? =some x)(ha:l[x]? =some a):Za5 l (t.take (k+1))=(Za5 l (t.take k)).set x (a.2,a.1):=by
 refine qA λ u=>?_
 rw[qL,Go.Cy.flipN_len];rcases uE u l.length with hu|hu
 ·obtain⟨b,hb⟩:=Zac hu;rw[Go.Cy.flipN_get hb,Go.Cy.flipN_get hb,ZaA ht];by_cases c:x=u
  ·subst c;rw[ha]at hb;cases hb;simp[hu]
  ·rw[if_neg c];have:(u∈t.take k++[x])↔u∈t.take k:=by simp[Ne.symm c]
   by_cases c2:u∈t.take k
   ·rw[if_pos c2,if_pos (this.2 c2)]
   ·rw[if_neg c2,if_neg (λ h=>c2 (this.1 h))]
 ·rw[uN (by rw[Go.Cy.flipN_len];exact hu),uN (by rw[Go.Cy.flipN_len];exact hu)];split
  ·rw[if_neg (by omega)]
  ·rfl
theorem ZyL {l:List NA}{t:List Nat}{k x:Nat}{a:NA}(hn:Asc t)(ht:t[k]? =some x)(ha:l[x]? =some a):(Za5 l (t.take k))[x]? =some a:=by
 rw[Go.Cy.flipN_get ha,if_neg];intro hm;obtain⟨i,hi⟩:=yV.1 hm;rw[qH]at hi;split at hi
 ·rename_i hik;have h1:=uB.1 hi;have h2:=uB.1 ht;have:=(gO.1 hn) i k h1.1 h2.1 hik;rw[h1.2,h2.2]at this;omega
 ·cases hi
theorem Zxd (l:List NA)(x:Nat)(a:NA):(castA l).set x ((a.1:Int),(a.2:Int))=castA (l.set x a):=by
 rw[castA,castA,yZ]
theorem ZCO (n:Nat)(l:List NA)(t:List Nat)(hll:l.length<=256)(ht:Zfm l t):Zaa Tryz.prog 89 [gD ((n:Int),castA l),Zbe t] (gD ((n:Int),castA (Za5 l t))):=by
 have hcl:=castA_len l;refine kE Tryz.func89 ?_;intro hat B X w0;have htl:=ZaJ 1 hat rfl;rw[uC]at htl;refine kw1 kO (kc1 hcl) kc0 ?_;refine Zaf (λ(k:Nat)=>k<=t.length) (λ k=>[(1, .d (Zbe t)),(2, .ptr 2 0 0 0),(4, .ptr 4 0 0 0),(5, .ptr 5 0 0 0),(6, .int k)]) (λ k=>[(2, .cells [.int n, .d (Zaj (castA l))]),(4, .cells [.int 0, .nilS]),(5, .cells [.int n, .ref 900 2 0 l.length l.length]),(900, .row 2 ((castA (Za5 l (t.take k))).map Za0))]) (λ k=>t.length-k) 0 ?_ ?_ ?_
 ·exact uH _
 ·exact kN (kc2 @yX.{0} @Go.Cy.flipN_nil) [(900,15)]
 ·intro k hk;rcases uE k t.length with hlt|hge
  ·obtain⟨x,hx⟩:=Zac hlt;obtain⟨a,ha,hne⟩:=ht.2 x (uA hx);have hxl:=(uB.1 ha).1;have hg:=castA_get (ZyL ht.1 hx ha);have hfl:(castA (Za5 l (t.take k))).length=l.length:=by rw[castA_len,Go.Cy.flipN_len]
   have hs:(castA (Za5 l (t.take k))).set x ((a.2:Int),(a.1:Int))=castA (Za5 l (t.take (k+1))):=by
    rw[ZyM hx ha];exact Zxd _ x (a.2,a.1)
   have hs2:((castA (Za5 l (t.take k))).map Za0).set x (.ag [.int (a.2:Nat), .int (a.1:Nat)])=(castA (Za5 l (t.take (k+1)))).map Za0:=by
    rw[<-hs,yZ]
   refine kw1 kO (kc4 hx hg hfl hs2) kc0 ?_;refine⟨k+1,?_,kN kc0 [],?_⟩
   ·omega
   ·omega
  ·have hk:k=t.length:=by omega
   subst hk;have hfl:(castA (Za5 l t)).length=l.length:=by rw[castA_len,Go.Cy.flipN_len]
   refine kw1 kO kc0 kc0 ?_;refine⟨_,_,_,_,rfl,?_⟩;simp(disch:=omega) only[go_sem,simprocAttr];simp[toD,gD,Zaj,yE,hfl,uD]
theorem ZuZ :∀{a b:List Nat},a.Nodup->(∀x,x∈a->x∈b)->a.length<=b.length
 |[],b,_,_=>by simp
 |x::a,b,hn,hs=>by
  have hn':=yW.1 hn;have hx:=hs x (by simp);have:=ZuZ (b:=b.erase x) hn'.2 λ y hy=>(zX (λ e=>hn'.1 (by rw[<-e];exact hy))).2 (hs y (uO _ hy))
  rw[jV hx]at this;have:=zH hx;simp;omega
structure Gone (n:Nat)(l:List NA)(G:List Nat):Prop where
 peel:ZfF l G
 nd:G.Nodup
 lt:∀v,v∈G->v<n
theorem Gone.cons {n:Nat}{l:List NA}{G:List Nat}(h:Gone n l G){v:Nat}(hv:v<n)(h1:v∉G)(h2:Src l G v):Gone n l (v::G):=
 ⟨h.peel.cons h1 h2,yW.2 ⟨h1,h.nd⟩,λ u hu=>by
  rcases yF.1 hu with rfl|hu
  ·exact hv
  ·exact h.lt u hu⟩
theorem Gone.fin {n:Nat}{l:List NA}{G:List Nat}(h:Gone n l G)(hi:InN n l)(hs:n<=G.length\/ZjB n l G):decide (n-G.length=0)=ZmF l:=by
 rw[qV,decide_eq_true_iff,Zwg];constructor
 ·intro h0;exact h.peel.all hi (Go.Cy.nd_all h.nd h.lt (by omega))
 ·intro ha;rcases hs with hs|hs
  ·omega
  ·have:=ZuZ (b:=G) (kT (n:=n)) λ v hv=>Go.Cy.stuck_all hi ha hs v (uZ.1 hv)
   simp at this;omega
end Go.Proofs.YtjjbhjnpeenbkaaGreatDoor.Cyc
namespace Go.Proofs.YtjjbhjnpeenbkaaGreatDoor.Cyc
open Go Go.PS Go.Proofs
open Go.Cy (NA InN Za5 Zfm bwd Zgj ZaY)
open Go.Bd (Part)
set_option maxRecDepth 100000
attribute [local irreducible] Zad wpG Zaa Zag
theorem ZCd (n:Nat)(l:List NA)(R:List Nat)(hi:InN n l)(hn:n<=64)(hll:l.length<=256)(hP:Part n 0 R):Zaa Tryz.prog 145 [gD ((n:Int),castA l),Zbe R] (Zbe (ZaY R l)):=by
 have hcl:=castA_len l;have hRl:R.length=n:=by have:=hP.len;omega
 refine kE Tryz.func145 ?_;intro hat B X w0;refine kw1 kO (kc1 hRl) kc0 ?_;refine Zaf (λ(k:Nat)=>k<=n) (λ k=>[(1, .d (Zbe R)),(2, .ptr 2 0 0 0),(5, .ref 11 1 0 n n),(6, .int k)]) (λ k=>[(2, .cells [.int n, .d (Zaj (castA l))]),(11, .row 1 (Zb1 n (plF R k)))]) (λ k=>n-k) 0 ?_ ?_ ?_
 ·exact uH _
 ·exact kN (kc1 (ZtD n R)) []
 ·intro k hk;rcases uE k n with hlt|hge
  ·obtain⟨v,hvk⟩:=Zac (show k<R.length by omega);have hvn:=hP.lt v (uA hvk);have hg:=Zga (plF R k) hvn;have hs:=Zuk (n:=n) (f:=plF R k) (f':=plF R (k+1)) (i:=v) (x:=k) (λ w _=>ZtE hP.nd hvk w);refine kw1 kO (kc5 hvk hRl hg @Zfz hs) kc0 ?_;refine⟨k+1,?_,kN kc0 [],?_⟩
   ·omega
   ·omega
  ·have hk:n=k:=by omega
   subst hk;refine kw1 (kow (Nat.beq 25) (b:=true)) (kc2 hRl hcl) kc0 ?_;refine Zaf (λ(k:Nat)=>k<=l.length) (λ k=>[(1, .d (Zbe R)),(2, .ptr 2 0 0 0),(5, .ref 11 1 0 n n),(7, .ref 901 1 0 (Zet R l k).length (Zet R l k).length),(8, .int k)]) (λ k=>[(2, .cells [.int n, .d (Zaj (castA l))]),(11, .row 1 (Zb1 n (plF R n))),(901, .row 1 ((Zet R l k).map Zam))]) (λ k=>l.length-k) 0 ?_ ?_ ?_
   ·exact uH _
   ·exact kN kc0 [(901,25)]
   ·intro k hk;rcases uE k l.length with hlt|hge
    ·obtain⟨a,ha⟩:=Zac hlt;have hp:=castA_get ha;have hin:=hi a (uA ha);have g1:=Zga (plF R n) hin.1;have g2:=Zga (plF R n) hin.2;have q1:=ZlX hP hin.1;have q2:=ZlX hP hin.2;rw[hRl]at q1 q2;rw[q1]at g1;rw[q2]at g2;have hs:=Zqe R ha;have hbl:=Zqd R l k;rw[bwd]at hs;by_cases c:R.idxOf a.2<R.idxOf a.1
     ·rw[yD c,if_pos rfl]at hs;refine kw1 kO (kc6 hp hcl g1 g2 @Zfz @Zal) kc0 ?_;refine⟨k+1,?_,kN (kc6 hs @uG.{0} @yL.{0} @uQ.{0,0} @uT.{0,0} @yH.{0,0}) [(901,55)],?_⟩
      ·omega
      ·omega
     ·rw[uV c,if_neg kA]at hs;refine kw1 kO (kc5 hp hcl g1 g2 @Zfz) kc0 ?_;refine⟨k+1,?_,kN (kc1 hs) [],?_⟩
      ·omega
      ·omega
    ·have hk:k=l.length:=by omega
     subst hk;refine kw1 kO (kc1 hcl) kc0 ?_;exact ZbF (o:=901) rfl rfl (by simp) (by rw[uD (by simp)];rfl)
end Go.Proofs.YtjjbhjnpeenbkaaGreatDoor.Cyc
namespace Go.Proofs.YtjjbhjnpeenbkaaGreatDoor.Cyc
open Go Go.PS Go.Proofs
open Go.Cy (NA InN ZcL Zdz Zdy Zef bwd ZaY)
set_option maxRecDepth 100000
attribute [local irreducible] Zad wpG Zaa Zag
end Go.Proofs.YtjjbhjnpeenbkaaGreatDoor.Cyc
namespace Go.Proofs.YtjjbhjnpeenbkaaGreatDoor.Cyc
open Go Go.PS Go.Proofs
open Go.Cy (NA InN bwd Zgj ZaY Zbu ZbN Zb2 ZaW ZdL Zbk Za5)
open Go.Bd (Part)
set_option maxRecDepth 100000
attribute [local irreducible] Zad wpG Zaa Zag
theorem Zso :∀{a b:List Nat} {k:Nat},a.take k=b.take k->ZbN (a.drop k) (b.drop k)=ZbN a b
 |a,b,0,_=>by rw[qR,qR]
 |[],[],k+1,_=>by simp
 |[],y::b,k+1,h=>by simp at h
 |x::a,[],k+1,h=>by simp at h
 |x::a,y::b,k+1,h=>by
  simp only[Bi,List.cons.injEq]at h;obtain⟨rfl,h⟩:=h;rw[Ac,Ac,Zso h,ZbN,if_pos rfl]
theorem Zuh (a b:List Nat):Zaa Tryz.prog 197 [Zbe a,Zbe b] (.bool (Zbu a b)):=by
 refine kE Tryz.func197 ?_;intro hat B X w0;have ha:=ZaJ 0 hat rfl;have hb:=ZaJ 1 hat rfl;rw[uC]at ha hb;by_cases c:a.length=b.length
 ·have c':(a.length:Int)=b.length:=by omega
  rw[Zbu,if_pos c];refine kw1 kO (kc1 @c') kc0 ?_;refine Zaf (λ(k:Nat)=>k<=a.length/\a.take k=b.take k) (λ k=>[(0, .d (Zbe a)),(1, .d (Zbe b)),(5, .int k)]) (λ k=>[]) (λ k=>a.length-k) 0 ?_ ?_ ?_
  ·exact⟨uH _,rfl⟩
  ·exact kN kc0 []
  ·rintro k ⟨hk,hinv⟩;rcases uE k a.length with hlt|hge
   ·obtain⟨x,hx⟩:=Zac hlt;obtain⟨y,hy⟩:=Zac (show k<b.length by omega);by_cases d:x=y
    ·subst d;refine kw1 kO (kc2 hx hy) kc0 ?_;refine⟨k+1,?_,kN kc0 [],?_⟩
     ·exact⟨by omega,by rw[ZaA hx,ZaA hy,hinv]⟩
     ·omega
    ·have d':¬(x:Int)=y:=by omega
     have e:ZbN a b=decide (x<y):=by
      obtain⟨h1,h2⟩:=uB.1 hx;obtain⟨h3,h4⟩:=uB.1 hy;rw[<-Zso hinv,qY h1,qY h3,ZbN,h2,h4,if_neg d]
     rw[e];refine kw1 kO (kc3 hx hy @d') kc0 ?_;exact Zah (Cc.2 (by omega))
   ·have e:a=b:=by
     have h1:a.take k=a:=uD hge;have h2:b.take k=b:=uD (by omega);rw[h1,h2]at hinv;exact hinv
    subst e;rw[Go.Cy.lexLt_irr];refine kw1 kO kc0 kc0 ?_;exact rfl
 ·have c':¬(a.length:Int)=b.length:=by omega
  rw[Zbu,if_neg c];refine kw1 kO (kc1 @c') kc0 ?_;exact Zah (Cc.2 (by omega))
theorem ZCc (n:Nat)(l:List NA)(R:List Nat)(hi:InN n l)(hn:n<=64)(hll:l.length<=256)(hP:Part n 0 R):Zag Tryz.prog 145 [.d (gD ((n:Int),castA l)), .ref 1000 1 0 n n] [(1000, .row 1 (R.map Zam)),(2000, .dead)] (.ref 2000 1 0 (ZaY R l).length (ZaY R l).length) [(1000, .row 1 (R.map Zam)),(2000, .row 1 ((ZaY R l).map Zam))]:=by
 have hcl:=castA_len l;have hRl:R.length=n:=by have:=hP.len;omega
 refine kM Tryz.func145 ?_;intro B X w0;refine Zdn ?_;refine kw1 kP (kc1 hRl) kc0 ?_;refine Zaf (λ(k:Nat)=>k<=n) (λ k=>[(1, .ref 1000 1 0 n n),(2, .ptr 2 0 0 0),(5, .ref 11 1 0 n n),(6, .int k)]) (λ k=>[(2, .cells [.int n, .d (Zaj (castA l))]),(1000, .row 1 (R.map Zam)),(11, .row 1 (Zb1 n (plF R k)))]) (λ k=>n-k) 0 ?_ ?_ ?_
 ·exact uH _
 ·exact kN (kc1 (ZtD n R)) []
 ·intro k hk;rcases uE k n with hlt|hge
  ·obtain⟨v,hvk⟩:=Zac (show k<R.length by omega);have hvn:=hP.lt v (uA hvk);have hg:=Zga (plF R k) hvn;have hs:=Zuk (n:=n) (f:=plF R k) (f':=plF R (k+1)) (i:=v) (x:=k) (λ w _=>ZtE hP.nd hvk w);refine kw1 kP (kc5 hvk hRl hg @Zfz hs) kc0 ?_;refine⟨k+1,?_,kN kc0 [],?_⟩
   ·omega
   ·omega
  ·have hk:n=k:=by omega
   subst hk;refine kw1 (kow (Nat.beq 25) (b:=false)) (kc2 hRl hcl) kc0 ?_;refine Zaf (λ(k:Nat)=>k<=l.length) (λ k=>[(1, .ref 1000 1 0 n n),(2, .ptr 2 0 0 0),(5, .ref 11 1 0 n n),(7, .ref 901 1 0 (Zet R l k).length (Zet R l k).length),(8, .int k)]) (λ k=>[(2, .cells [.int n, .d (Zaj (castA l))]),(1000, .row 1 (R.map Zam)),(11, .row 1 (Zb1 n (plF R n))),(901, .row 1 ((Zet R l k).map Zam))]) (λ k=>l.length-k) 0 ?_ ?_ ?_
   ·exact uH _
   ·exact kN kc0 [(901,25)]
   ·intro k hk;rcases uE k l.length with hlt|hge
    ·obtain⟨a,ha⟩:=Zac hlt;have hp:=castA_get ha;have hin:=hi a (uA ha);have g1:=Zga (plF R n) hin.1;have g2:=Zga (plF R n) hin.2;have q1:=ZlX hP hin.1;have q2:=ZlX hP hin.2;rw[hRl]at q1 q2;rw[q1]at g1;rw[q2]at g2;have hs:=Zqe R ha;have hbl:=Zqd R l k;rw[bwd]at hs;by_cases c:R.idxOf a.2<R.idxOf a.1
     ·rw[yD c,if_pos rfl]at hs;refine kw1 kP (kc6 hp hcl g1 g2 @Zfz @Zal) kc0 ?_;refine⟨k+1,?_,kN (kc6 hs @uG.{0} @yL.{0} @uQ.{0,0} @uT.{0,0} @yH.{0,0}) [(901,55)],?_⟩
      ·omega
      ·omega
     ·rw[uV c,if_neg kA]at hs;refine kw1 kP (kc5 hp hcl g1 g2 @Zfz) kc0 ?_;refine⟨k+1,?_,kN (kc1 hs) [],?_⟩
      ·omega
      ·omega
    ·have hk:k=l.length:=by omega
     subst hk;have hbk:Zet R l l.length=ZaY R l:=rfl;rw[hbk];refine kw1 kP (kc1 hcl) kc0 ?_;refine Za7 ?_;refine⟨_,Zby.1 (kN (L:=[(4, .ref 2000 1 0 (ZaY R l).length (ZaY R l).length)]) (M:=[(1000, .row 1 (R.map Zam)),(2000, .row 1 ((ZaY R l).map Zam))]) kc0 [(2000,901)]),?_⟩;exact⟨rfl,fmc ⟨rfl,fmc ⟨rfl,fmn⟩⟩⟩
def ZbE (o:Option (List Nat)):List Nat:=o.getD []
theorem Zvu (m:List Nat)(v:Nat){i x:Nat}(h:m[i]? =some x):decide (v∈m.take (i+1))=(decide (v∈m.take i)||decide (x=v)):=by
 rw[ZaA h,qV];simp only[yK,uS,qZ,uF];exact⟨λ h=>h.imp id Eq.symm,λ h=>h.imp id Eq.symm⟩
theorem ZDp (n:Nat)(l:List NA)(hi:InN n l)(hn:n<=64)(hll:l.length<=256):∀(f:Nat) (m:List Nat),Part n f m->
  Zag Tryz.prog 144 [.d (gD ((n:Int),castA l)), .ref 1000 1 0 m.length m.length] [(1000, .row 1 (m.map Zam)),(2000, .dead)] (.ref 2000 1 0 (Zb2 n l f m).length (Zb2 n l f m).length) [(1000, .row 1 (m.map Zam)),(2000, .row 1 ((Zb2 n l f m).map Zam))]:=by
 intro f
 induction f with
 |zero=>
  intro m hP;have hml:m.length=n:=by have:=hP.len;omega
  have hb:=ZCc n l m hi hn hll hP;rw[<-hml]at hb;have e:Zb2 n l 0 m=ZaY m l:=by rw[Zb2]
  rw[e];have c':(m.length:Int)=n:=by omega
  refine kM Tryz.func144 ?_;intro B X w0;refine Zdn ?_;rw[<-hml];refine kw1 kP kc0 (kc1 (kmc [(1000,1000),(2000,903)] hb)) ?_;refine Za7 ?_;refine⟨_,Zby.1 (kN (L:=[(4, .ref 2000 1 0 (ZaY m l).length (ZaY m l).length)]) (M:=[(1000, .row 1 (m.map Zam)),(2000, .row 1 ((ZaY m l).map Zam))]) kc0 [(2000,903)]),?_⟩;exact⟨rfl,fmc ⟨rfl,fmc ⟨rfl,fmn⟩⟩⟩
 |succ f IH=>
  intro m hP;have hmn:m.length+(f+1)=n:=hP.len;have hml:¬(m.length:Int)=n:=by omega
  have e0:Zb2 n l (f+1) m=ZbE (ZaW n l f m n):=by rw[Zb2];rfl
  rw[e0];refine kM Tryz.func144 ?_;intro B X w0;refine Zdn ?_;refine kw1 (kow (λ s=>(Nat.beq 20 s).or (Nat.beq 44 s)) (b:=false)) (kc1 hml) kc0 ?_;refine Zaf (λ(v:Nat)=>v<=n) (λ v=>[(1, .ref 1000 1 0 m.length m.length),(2, .ptr 2 0 0 0),(5, .ref 902 1 0 (ZbE (ZaW n l f m v)).length (ZbE (ZaW n l f m v)).length),(6, .bool (ZaW n l f m v).isSome),(7, .int v)]) (λ v=>[(2, .cells [.int n, .d (Zaj (castA l))]),(1000, .row 1 (m.map Zam)),(902, .row 1 ((ZbE (ZaW n l f m v)).map Zam))]) (λ v=>n-v) 0 ?_ ?_ ?_
  ·exact uH _
  ·exact eL [(902,20)] _ _ (by refine⟨?_,?_⟩<;>(repeat' first|exact fmn|refine fmc ⟨(by first|rfl|(simp(disch:=omega) only[go_sem,simprocAttr,inL,ZaW,ZbE,Cz,Option.getD_none,uY,yH];first|done|omega|(congr 1;done))),?_⟩);done)
  ·intro v hv;rcases uE v n with hlt|hge
   ·have hmb:=hmn;refine kw1 kP (kc1 hml) kc0 ?_;refine Zaf (λ(i:Nat)=>i<=m.length) (λ i=>[(1, .ref 1000 1 0 m.length m.length),(2, .ptr 2 0 0 0),(5, .ref 902 1 0 (ZbE (ZaW n l f m v)).length (ZbE (ZaW n l f m v)).length),(6, .bool (ZaW n l f m v).isSome),(7, .int v),(8, .bool (decide (v∈m.take i))),(9, .int i)]) (λ i=>[(2, .cells [.int n, .d (Zaj (castA l))]),(1000, .row 1 (m.map Zam)),(902, .row 1 ((ZbE (ZaW n l f m v)).map Zam))]) (λ i=>m.length-i) 0 ?_ ?_ ?_
    ·exact uH _
    ·exact kN (kc3 @yX.{0} @gL.{0} @zT) []
    ·intro i hil;rcases uE i m.length with hi2|hi2
     ·obtain⟨x,hx⟩:=Zac hi2;have hu:=Zvu m v hx;rcases hb:decide (v∈m.take i)with _|_
      ·rw[hb]at hu;by_cases d:x=v
       ·subst d;rw[yD rfl]at hu;refine kw1 kP (kc2 hx @uC.{0,0}) kc0 ?_;refine⟨i+1,?_,kN (kc2 hu @Bm) [],?_⟩
        ·omega
        ·omega
       ·rw[uV d]at hu;have d':¬(x:Int)=v:=by omega
        refine kw1 kP (kc3 hx @uC.{0,0} @d') kc0 ?_;refine⟨i+1,?_,kN (kc2 hu @Bool.or_self) [],?_⟩
        ·omega
        ·omega
      ·rw[hb]at hu;refine kw1 kP (kc2 hx @uC.{0,0}) kc0 ?_;refine⟨i+1,?_,kN (kc2 hu @Cs) [],?_⟩
       ·omega
       ·omega
     ·have him:i=m.length:=by omega
      subst him;rw[yE];by_cases c:v∈m
      ·rw[yD c];have e:ZaW n l f m (v+1)=ZaW n l f m v:=by rw[ZaW,if_pos c]
       refine kw1 kP (kc1 @uC.{0,0}) kc0 ?_;refine⟨v+1,?_,kN (kc1 e) [],?_⟩
       ·omega
       ·omega
      ·rw[uV c];have hP':=hP.snoc hlt c;have ih:=IH (m++[v]) hP';have e:ZaW n l f m (v+1)=ZdL (ZaW n l f m v) (Zb2 n l f (m++[v])):=by rw[ZaW,if_neg c]
       have hsl:=Go.Cy.srch_len n l hP';obtain⟨s,hs⟩:∃s,s=Zb2 n l f (m++[v]):=⟨_,rfl⟩;rw[<-hs]at ih e hsl;simp only[uG,yB,uY,uQ,uT,yH,qT]at ih;rcases hst:ZaW n l f m v with _|b
       ·rw[hst]at e;have e1:ZbE none=[]:=rfl;have e2:(none:Option (List Nat)).isSome=false:=rfl;have e3:ZdL none s=some s:=rfl;rw[e1,e2];refine kw1 (kow (Nat.beq 44) (b:=false)) (kc2 @uC.{0,0} @Zal) (kc1 (kmc [(1000,52),(2000,903)] ih)) ?_;refine⟨v+1,?_,kN (kc5 e e3 @ZbE.eq_1 @yN.{0} @jY.{0}) [(902,903)],?_⟩
        ·omega
        ·omega
       ·rw[hst]at e;have e1:ZbE (some b)=b:=rfl;have e2:(some b:Option (List Nat)).isSome=true:=rfl;rw[e1,e2];have hls:=Zuh s b;rcases hl2:Zbu s b with _|_
        ·have e3:ZdL (some b) s=some b:=by simp[ZdL,hl2]
         rw[hl2]at hls;refine kw1 (kow (Nat.beq 44) (b:=false)) (kc2 @uC.{0,0} @Zal) (kc2 (kmc [(1000,52),(2000,903)] ih) hls) ?_;refine⟨v+1,?_,kN (kc5 e e3 @ZbE.eq_1 @yN.{0} @jY.{0}) [],?_⟩
         ·omega
         ·omega
        ·have e3:ZdL (some b) s=some s:=by simp[ZdL,hl2]
         rw[hl2]at hls;refine kw1 (kow (Nat.beq 44) (b:=false)) (kc2 @uC.{0,0} @Zal) (kc2 (kmc [(1000,52),(2000,903)] ih) hls) ?_;refine⟨v+1,?_,kN (kc5 e e3 @ZbE.eq_1 @yN.{0} @jY.{0}) [(902,903)],?_⟩
         ·omega
         ·omega
   ·have hvn:n=v:=by omega
    subst hvn;refine kw1 kP kc0 kc0 ?_;refine Za7 ?_;refine⟨_,Zby.1 (kN (L:=[(4, .ref 2000 1 0 (ZbE (ZaW n l f m n)).length (ZbE (ZaW n l f m n)).length)]) (M:=[(1000, .row 1 (m.map Zam)),(2000, .row 1 ((ZbE (ZaW n l f m n)).map Zam))]) kc0 [(2000,902)]),?_⟩;exact⟨rfl,fmc ⟨rfl,fmc ⟨rfl,fmn⟩⟩⟩
theorem ZDo (n:Nat)(l:List NA)(hi:InN n l)(hn:n<=64)(hll:l.length<=256)(f:Nat)(m:List Nat)(hP:Part n (f+1) m):
  Zaa Tryz.prog 144 [gD ((n:Int),castA l),Zbe m] (Zbe (Zb2 n l (f+1) m)):=by
  have IH:=ZDp n l hi hn hll f;have hmn:m.length+(f+1)=n:=hP.len;have hml:¬(m.length:Int)=n:=by omega
  have e0:Zb2 n l (f+1) m=ZbE (ZaW n l f m n):=by rw[Zb2];rfl
  rw[e0];refine kE Tryz.func144 ?_;intro hat B X w0;refine kw1 (kow (λ s=>(Nat.beq 20 s).or (Nat.beq 44 s)) (b:=true)) (kc1 hml) kc0 ?_;refine Zaf (λ(v:Nat)=>v<=n) (λ v=>[(1, .d (Zbe m)),(2, .ptr 2 0 0 0),(5, .ref 902 1 0 (ZbE (ZaW n l f m v)).length (ZbE (ZaW n l f m v)).length),(6, .bool (ZaW n l f m v).isSome),(7, .int v)]) (λ v=>[(2, .cells [.int n, .d (Zaj (castA l))]),(902, .row 1 ((ZbE (ZaW n l f m v)).map Zam))]) (λ v=>n-v) 0 ?_ ?_ ?_
  ·exact uH _
  ·exact eL [(902,20)] _ _ (by refine⟨?_,?_⟩<;>(repeat' first|exact fmn|refine fmc ⟨(by first|rfl|(simp(disch:=omega) only[go_sem,simprocAttr,inL,ZaW,ZbE,Cz,Option.getD_none,uY,yH];first|done|omega|(congr 1;done))),?_⟩);done)
  ·intro v hv;rcases uE v n with hlt|hge
   ·have hmb:=hmn;refine kw1 kO (kc1 hml) kc0 ?_;refine Zaf (λ(i:Nat)=>i<=m.length) (λ i=>[(1, .d (Zbe m)),(2, .ptr 2 0 0 0),(5, .ref 902 1 0 (ZbE (ZaW n l f m v)).length (ZbE (ZaW n l f m v)).length),(6, .bool (ZaW n l f m v).isSome),(7, .int v),(8, .bool (decide (v∈m.take i))),(9, .int i)]) (λ i=>[(2, .cells [.int n, .d (Zaj (castA l))]),(902, .row 1 ((ZbE (ZaW n l f m v)).map Zam))]) (λ i=>m.length-i) 0 ?_ ?_ ?_
    ·exact uH _
    ·exact kN (kc3 @yX.{0} @gL.{0} @zT) []
    ·intro i hil;rcases uE i m.length with hi2|hi2
     ·obtain⟨x,hx⟩:=Zac hi2;have hu:=Zvu m v hx;rcases hb:decide (v∈m.take i)with _|_
      ·rw[hb]at hu;by_cases d:x=v
       ·subst d;rw[yD rfl]at hu;refine kw1 kO (kc2 hx @uC.{0,0}) kc0 ?_;refine⟨i+1,?_,kN (kc2 hu @Bm) [],?_⟩
        ·omega
        ·omega
       ·rw[uV d]at hu;have d':¬(x:Int)=v:=by omega
        refine kw1 kO (kc3 hx @uC.{0,0} @d') kc0 ?_;refine⟨i+1,?_,kN (kc2 hu @Bool.or_self) [],?_⟩
        ·omega
        ·omega
      ·rw[hb]at hu;refine kw1 kO (kc2 hx @uC.{0,0}) kc0 ?_;refine⟨i+1,?_,kN (kc2 hu @Cs) [],?_⟩
       ·omega
       ·omega
     ·have him:i=m.length:=by omega
      subst him;rw[yE];by_cases c:v∈m
      ·rw[yD c];have e:ZaW n l f m (v+1)=ZaW n l f m v:=by rw[ZaW,if_pos c]
       refine kw1 kO (kc1 @uC.{0,0}) kc0 ?_;refine⟨v+1,?_,kN (kc1 e) [],?_⟩
       ·omega
       ·omega
      ·rw[uV c];have hP':=hP.snoc hlt c;have ih:=IH (m++[v]) hP';have e:ZaW n l f m (v+1)=ZdL (ZaW n l f m v) (Zb2 n l f (m++[v])):=by rw[ZaW,if_neg c]
       have hsl:=Go.Cy.srch_len n l hP';obtain⟨s,hs⟩:∃s,s=Zb2 n l f (m++[v]):=⟨_,rfl⟩;rw[<-hs]at ih e hsl;simp only[uG,yB,uY,uQ,uT,yH,qT]at ih;rcases hst:ZaW n l f m v with _|b
       ·rw[hst]at e;have e1:ZbE none=[]:=rfl;have e2:(none:Option (List Nat)).isSome=false:=rfl;have e3:ZdL none s=some s:=rfl;rw[e1,e2];refine kw1 (kow (Nat.beq 44) (b:=true)) (kc2 @uC.{0,0} @Zal) (kc1 (kmc [(1000,52),(2000,903)] ih)) ?_;refine⟨v+1,?_,kN (kc5 e e3 @ZbE.eq_1 @yN.{0} @jY.{0}) [(902,903)],?_⟩
        ·omega
        ·omega
       ·rw[hst]at e;have e1:ZbE (some b)=b:=rfl;have e2:(some b:Option (List Nat)).isSome=true:=rfl;rw[e1,e2];have hls:=Zuh s b;rcases hl2:Zbu s b with _|_
        ·have e3:ZdL (some b) s=some b:=by simp[ZdL,hl2]
         rw[hl2]at hls;refine kw1 (kow (Nat.beq 44) (b:=true)) (kc2 @uC.{0,0} @Zal) (kc2 (kmc [(1000,52),(2000,903)] ih) hls) ?_;refine⟨v+1,?_,kN (kc5 e e3 @ZbE.eq_1 @yN.{0} @jY.{0}) [],?_⟩
         ·omega
         ·omega
        ·have e3:ZdL (some b) s=some s:=by simp[ZdL,hl2]
         rw[hl2]at hls;refine kw1 (kow (Nat.beq 44) (b:=true)) (kc2 @uC.{0,0} @Zal) (kc2 (kmc [(1000,52),(2000,903)] ih) hls) ?_;refine⟨v+1,?_,kN (kc5 e e3 @ZbE.eq_1 @yN.{0} @jY.{0}) [(902,903)],?_⟩
         ·omega
         ·omega
   ·have hvn:n=v:=by omega
    subst hvn;refine kw1 kO kc0 kc0 ?_;exact ZbF (o:=902) rfl rfl (by simp) (by rw[uD (by simp)])
theorem ZDq (n:Nat)(l:List NA)(hi:InN n l)(h8:n<=8)(hll:l.length<=256):Zaa Tryz.prog 144 [gD ((n:Int),castA l), .sl []] (Zbe (Zbk n l)):=by
 rw[<-Go.Cy.srch_least h8 hi (by omega)];cases n with
 |zero=>
  have hb:=ZCd 0 l [] hi (by omega) hll ⟨zA,by simp,rfl⟩;have e:Zb2 0 l 0 []=ZaY [] l:=by rw[Zb2]
  rw[e];refine kE Tryz.func144 ?_;intro hat B X w0;refine kw1 kO kc0 (kc1 hb) ?_;exact rfl
 |succ f=>exact ZDo (f+1) l hi (by omega) hll f [] ⟨zA,by simp,by simp⟩
theorem ZCi (n:Nat)(l:List NA)(h:gOk ((n:Int),castA l)=true)(hi:InN n l)(hll:l.length<=256)(h8:n<=8):Zaa Tryz.prog 87 [gD ((n:Int),castA l)] (.tup [Zbe (Zbk n l), .int 0]):=by
 have hv:Zaa Tryz.prog 86 [gD ((n:Int),castA l)] (.bool true):=h▸ZtZ _;have hs:=ZDq n l hi h8 hll;refine kE Tryz.func87 ?_;intro hat B X w0;refine kw1 kO kc0 (kc2 hv hs) ?_;exact⟨_,rfl,rfl,rfl,trivial⟩
end Go.Proofs.YtjjbhjnpeenbkaaGreatDoor.Cyc
namespace Go.Proofs.YtjjbhjnpeenbkaaGreatDoor.Cyc
open Go Go.PS Go.Proofs
open Go.Cy (NA InN Zbk Za5 Zfm)
set_option maxRecDepth 100000
attribute [local irreducible] Zad wpG Zaa Zag
theorem rBreak8 (n:Nat)(l:List NA)(h:gOk ((n:Int),castA l)=true)(hi:InN n l)(hll:l.length<=256)(h8:n<=8):Zaa Tryz.prog 42 [gD ((n:Int),castA l)] (.tup [Zbe (Zbk n l),gD ((n:Int),castA (Za5 l (Zbk n l)))]):=by
 have hv:Zaa Tryz.prog 86 [gD ((n:Int),castA l)] (.bool true):=h▸ZtZ _;have hF:=ZCO n l (Zbk n l) hll (Zsg n l);have hl:=ZCi n l h hi hll h8;refine kE Tryz.func42 ?_;intro hat B X w0;refine kw1 kO kc0 (kc3 hv hl hF) ?_;refine⟨_,rfl,?_,⟨_,_,_,_,rfl,?_⟩,trivial⟩
 ·rfl
 ·simp(disch:=omega) only[go_sem,simprocAttr]
end Go.Proofs.YtjjbhjnpeenbkaaGreatDoor.Cyc
