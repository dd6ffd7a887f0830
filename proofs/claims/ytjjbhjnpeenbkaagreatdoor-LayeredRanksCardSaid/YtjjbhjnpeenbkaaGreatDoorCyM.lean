/- The reference: validity, turned arcs, acyclic digraphs, sets that break the cycles. -/
import Derived.Test.YtjjbhjnpeenbkaaGreatDoorCyA
import Derived.Test.YtjjbhjnpeenbkaaGreatDoorPSCmp
set_option linter.unusedSimpArgs false
set_option linter.unusedVariables false
set_option maxHeartbeats 16000000
namespace Go.Proofs.YtjjbhjnpeenbkaaGreatDoor.Cyc
open Go Go.PS Go.Proofs
open Go.Cy (NA InN Za7 Zfc Acy Src ZfE Zjg Asc)
set_option maxRecDepth 100000
attribute [local irreducible] Zad wpG Zaa Zah
theorem ZsV (g:Gr):Zaa Tryz.prog 86 [gD g] (.bool (gOk g)):=by
 obtain⟨n,l⟩:=g;refine kE Tryz.func86 ?_;intro hat B X w0;have hl:=Zb7 0 1 hat rfl rfl;rw[uD]at hl;refine kw kO kc0 kc0 ?_
 repeat' first|exact True.intro|refine Bn.mk ?_ ?_|intro hc
 all_goals try (refine Zai ?_;simp[gOk];omega)
 refine Zae (λ(k:Nat)=>k<=l.length/\∀(j:Nat) y,j<k->l[j]? =some y->(!ZeO n y)=false) (λ k=>[(1, .ptr 1 0 0 0),(3, .int k)]) (λ k=>[(1, .cells [.int n, .d (Zal l)])]) (λ k=>l.length-k) 0 ?_ ?_ ?_
 ·exact⟨uG _,λ j y h=>by omega⟩
 ·exact kN kc0 []
 ·rintro k ⟨hk,hinv⟩;rcases uC k l.length with hlt|hge
  ·obtain⟨p,hp⟩:=Zac hlt;refine kw kO (kc1 hp) kc0 ?_
   repeat' first|exact True.intro|refine Bn.mk ?_ ?_|intro hc
   all_goals try
    refine Zai ?_;rw[gOk,Zb0 hp (by simp[ZeO];omega)];simp
   ·refine⟨k+1,?_,eL [] _ _ (by refine⟨?_,?_⟩<;>(repeat' first|exact fmn|refine fmc ⟨(by first|rfl|(simp(disch:=omega) only[go_sem,simprocAttr,inL];first|done|omega|(congr 1;done))),?_⟩);done),?_⟩
    ·exact⟨by omega,Zbj hinv hp (by simp[ZeO];omega)⟩
    ·omega
  ·refine kw1 kO kc0 kc0 ?_;refine Zai ?_;rw[gOk,Zck (λ j y hj=>hinv j y (by omega))];simp;omega
theorem Zxy {l:List NA}{t:List Nat}{k x:Nat}{a:NA}(ht:t[k]? =some x)(ha:l[x]? =some a):Za7 l (t.take (k+1))=(Za7 l (t.take k)).set x (a.2,a.1):=by
 refine yS λ u=>?_
 rw[yX,Go.Cy.flipN_len];rcases uC u l.length with hu|hu
 ·obtain⟨b,hb⟩:=Zac hu;rw[Go.Cy.flipN_get hb,Go.Cy.flipN_get hb,ZaA ht];by_cases c:x=u
  ·subst c;rw[ha]at hb;cases hb;simp[hu]
  ·rw[if_neg c];have:(u∈t.take k++[x])↔u∈t.take k:=by simp[Ne.symm c]
   by_cases c2:u∈t.take k
   ·rw[if_pos c2,if_pos (this.2 c2)]
   ·rw[if_neg c2,if_neg (λ h=>c2 (this.1 h))]
 ·rw[uL (by rw[Go.Cy.flipN_len];exact hu),uL (by rw[Go.Cy.flipN_len];exact hu)];split
  ·rw[if_neg (by omega)]
  ·rfl
theorem Zxx {l:List NA}{t:List Nat}{k x:Nat}{a:NA}(hn:Asc t)(ht:t[k]? =some x)(ha:l[x]? =some a):(Za7 l (t.take k))[x]? =some a:=by
 rw[Go.Cy.flipN_get ha,if_neg];intro hm;obtain⟨i,hi⟩:=gN.1 hm;rw[qF]at hi;split at hi
 ·rename_i hik;have h1:=uB.1 hi;have h2:=uB.1 ht;have:=(gM.1 hn) i k h1.1 h2.1 hik;rw[h1.2,h2.2]at this;omega
 ·cases hi
theorem Zv5 (l:List NA)(x:Nat)(a:NA):(castA l).set x ((a.1:Int),(a.2:Int))=castA (l.set x a):=by
 rw[castA,castA,yR]
theorem ZBw (n:Nat)(l:List NA)(t:List Nat)(hll:l.length<=256)(ht:Zfc l t):Zaa Tryz.prog 89 [gD ((n:Int),castA l),Zbh t] (gD ((n:Int),castA (Za7 l t))):=by
 have hcl:=castA_len l;refine kE Tryz.func89 ?_;intro hat B X w0;have htl:=ZaY 1 hat rfl;rw[uD]at htl;refine kw1 kO (kc1 hcl) kc0 ?_;refine Zae (λ(k:Nat)=>k<=t.length) (λ k=>[(1, .d (Zbh t)),(2, .ptr 2 0 0 0),(4, .ptr 4 0 0 0),(5, .ptr 5 0 0 0),(6, .int k)]) (λ k=>[(2, .cells [.int n, .d (Zal (castA l))]),(4, .cells [.int 0, .nilS]),(5, .cells [.int n, .ref 900 2 0 l.length l.length]),(900, .row 2 ((castA (Za7 l (t.take k))).map ZaX))]) (λ k=>t.length-k) 0 ?_ ?_ ?_
 ·exact uG _
 ·exact kN (kc2 @yU.{0} @Go.Cy.flipN_nil) [(900,15)]
 ·intro k hk;rcases uC k t.length with hlt|hge
  ·obtain⟨x,hx⟩:=Zac hlt;obtain⟨a,ha,hne⟩:=ht.2 x (uA hx);have hxl:=(uB.1 ha).1;have hg:=castA_get (Zxx ht.1 hx ha);have hfl:(castA (Za7 l (t.take k))).length=l.length:=by rw[castA_len,Go.Cy.flipN_len]
   have hs:(castA (Za7 l (t.take k))).set x ((a.2:Int),(a.1:Int))=castA (Za7 l (t.take (k+1))):=by
    rw[Zxy hx ha];exact Zv5 _ x (a.2,a.1)
   have hs2:((castA (Za7 l (t.take k))).map ZaX).set x (.ag [.int (a.2:Nat), .int (a.1:Nat)])=(castA (Za7 l (t.take (k+1)))).map ZaX:=by
    rw[<-hs,yR]
   refine kw1 kO (kc4 hx hg hfl hs2) kc0 ?_;refine⟨k+1,?_,kN kc0 [],?_⟩
   ·omega
   ·omega
  ·have hk:k=t.length:=by omega
   subst hk;have hfl:(castA (Za7 l t)).length=l.length:=by rw[castA_len,Go.Cy.flipN_len]
   refine kw1 kO kc0 kc0 ?_;refine⟨_,_,_,_,rfl,?_⟩;simp(disch:=omega) only[go_sem,simprocAttr];simp[toD,gD,Zal,yH,hfl,uE]
theorem ZtW :∀{a b:List Nat},a.Nodup->(∀x,x∈a->x∈b)->a.length<=b.length
 |[],b,_,_=>by simp
 |x::a,b,hn,hs=>by
  have hn':=yV.1 hn;have hx:=hs x (by simp);have:=ZtW (b:=b.erase x) hn'.2 λ y hy=>(zX (λ e=>hn'.1 (by rw[<-e];exact hy))).2 (hs y (uN _ hy))
  rw[kD hx]at this;have:=zO hx;simp;omega
structure Gone (n:Nat)(l:List NA)(G:List Nat):Prop where
 peel:ZfE l G
 nd:G.Nodup
 lt:∀v,v∈G->v<n
theorem Gone.cons {n:Nat}{l:List NA}{G:List Nat}(h:Gone n l G){v:Nat}(hv:v<n)(h1:v∉G)(h2:Src l G v):Gone n l (v::G):=
 ⟨h.peel.cons h1 h2,yV.2 ⟨h1,h.nd⟩,λ u hu=>by
  rcases yD.1 hu with rfl|hu
  ·exact hv
  ·exact h.lt u hu⟩
theorem Gone.fin {n:Nat}{l:List NA}{G:List Nat}(h:Gone n l G)(hi:InN n l)(hs:n<=G.length\/Zjg n l G):decide (n-G.length=0)=Zmh l:=by
 rw[qV,decide_eq_true_iff,Zu6];constructor
 ·intro h0;exact h.peel.all hi (Go.Cy.nd_all h.nd h.lt (by omega))
 ·intro ha;rcases hs with hs|hs
  ·omega
  ·have:=ZtW (b:=G) (kL (n:=n)) λ v hv=>Go.Cy.stuck_all hi ha hs v (yA.1 hv)
   simp at this;omega
end Go.Proofs.YtjjbhjnpeenbkaaGreatDoor.Cyc
namespace Go.Proofs.YtjjbhjnpeenbkaaGreatDoor.Cyc
open Go Go.PS Go.Proofs
open Go.Cy (NA InN Za7 Zfc bwd Zgj ZaZ)
open Go.Bd (Part)
set_option maxRecDepth 100000
attribute [local irreducible] Zad wpG Zaa Zah
theorem ZAK (n:Nat)(l:List NA)(R:List Nat)(hi:InN n l)(hn:n<=64)(hll:l.length<=256)(hP:Part n 0 R):Zaa Tryz.prog 145 [gD ((n:Int),castA l),Zbh R] (Zbh (ZaZ R l)):=by
 have hcl:=castA_len l;have hRl:R.length=n:=by have:=hP.len;omega
 refine kE Tryz.func145 ?_;intro hat B X w0;refine kw1 kO (kc1 hRl) kc0 ?_;refine Zae (λ(k:Nat)=>k<=n) (λ k=>[(1, .d (Zbh R)),(2, .ptr 2 0 0 0),(5, .ref 11 1 0 n n),(6, .int k)]) (λ k=>[(2, .cells [.int n, .d (Zal (castA l))]),(11, .row 1 (Zb3 n (plF R k)))]) (λ k=>n-k) 0 ?_ ?_ ?_
 ·exact uG _
 ·exact kN (kc1 (Zsz n R)) []
 ·intro k hk;rcases uC k n with hlt|hge
  ·obtain⟨v,hvk⟩:=Zac (show k<R.length by omega);have hvn:=hP.lt v (uA hvk);have hg:=Zf9 (plF R k) hvn;have hs:=Zth (n:=n) (f:=plF R k) (f':=plF R (k+1)) (i:=v) (x:=k) (λ w _=>ZsA hP.nd hvk w);refine kw1 kO (kc5 hvk hRl hg @Zfx hs) kc0 ?_;refine⟨k+1,?_,kN kc0 [],?_⟩
   ·omega
   ·omega
  ·have hk:n=k:=by omega
   subst hk;refine kw1 (kow (Nat.beq 25) (b:=true)) (kc2 hRl hcl) kc0 ?_;refine Zae (λ(k:Nat)=>k<=l.length) (λ k=>[(1, .d (Zbh R)),(2, .ptr 2 0 0 0),(5, .ref 11 1 0 n n),(7, .ref 901 1 0 (Zem R l k).length (Zem R l k).length),(8, .int k)]) (λ k=>[(2, .cells [.int n, .d (Zal (castA l))]),(11, .row 1 (Zb3 n (plF R n))),(901, .row 1 ((Zem R l k).map Zao))]) (λ k=>l.length-k) 0 ?_ ?_ ?_
   ·exact uG _
   ·exact kN kc0 [(901,25)]
   ·intro k hk;rcases uC k l.length with hlt|hge
    ·obtain⟨a,ha⟩:=Zac hlt;have hp:=castA_get ha;have hin:=hi a (uA ha);have g1:=Zf9 (plF R n) hin.1;have g2:=Zf9 (plF R n) hin.2;have q1:=Zly hP hin.1;have q2:=Zly hP hin.2;rw[hRl]at q1 q2;rw[q1]at g1;rw[q2]at g2;have hs:=Zpy R ha;have hbl:=Zpx R l k;rw[bwd]at hs;by_cases c:R.idxOf a.2<R.idxOf a.1
     ·rw[yB c,if_pos rfl]at hs;refine kw1 kO (kc6 hp hcl g1 g2 @Zfx @Zan) kc0 ?_;refine⟨k+1,?_,kN (kc6 hs @uH.{0} @yL.{0} @uR.{0,0} @uS.{0,0} @yE.{0,0}) [(901,55)],?_⟩
      ·omega
      ·omega
     ·rw[uU c,if_neg kK]at hs;refine kw1 kO (kc5 hp hcl g1 g2 @Zfx) kc0 ?_;refine⟨k+1,?_,kN (kc1 hs) [],?_⟩
      ·omega
      ·omega
    ·have hk:k=l.length:=by omega
     subst hk;refine kw1 kO (kc1 hcl) kc0 ?_;exact Zch (o:=901) rfl rfl (by simp) (by rw[uE (by simp)];rfl)
end Go.Proofs.YtjjbhjnpeenbkaaGreatDoor.Cyc
namespace Go.Proofs.YtjjbhjnpeenbkaaGreatDoor.Cyc
open Go Go.PS Go.Proofs
open Go.Cy (NA InN ZcG Zdv Zdu Zd8 bwd ZaZ)
set_option maxRecDepth 100000
attribute [local irreducible] Zad wpG Zaa Zah
end Go.Proofs.YtjjbhjnpeenbkaaGreatDoor.Cyc
namespace Go.Proofs.YtjjbhjnpeenbkaaGreatDoor.Cyc
open Go Go.PS Go.Proofs
open Go.Cy (NA InN bwd Zgj ZaZ ZbB ZbP Zb4 ZaW ZdH Zbn Za7)
open Go.Bd (Part)
set_option maxRecDepth 100000
attribute [local irreducible] Zad wpG Zaa Zah
theorem ZrE :∀{a b:List Nat} {k:Nat},a.take k=b.take k->ZbP (a.drop k) (b.drop k)=ZbP a b
 |a,b,0,_=>by rw[qN,qN]
 |[],[],k+1,_=>by simp
 |[],y::b,k+1,h=>by simp at h
 |x::a,[],k+1,h=>by simp at h
 |x::a,y::b,k+1,h=>by
  simp only[Bj,List.cons.injEq]at h;obtain⟨rfl,h⟩:=h;rw[Ac,Ac,ZrE h,ZbP,if_pos rfl]
theorem Ztd (a b:List Nat):Zaa Tryz.prog 197 [Zbh a,Zbh b] (.bool (ZbB a b)):=by
 refine kE Tryz.func197 ?_;intro hat B X w0;have ha:=ZaY 0 hat rfl;have hb:=ZaY 1 hat rfl;rw[uD]at ha hb;by_cases c:a.length=b.length
 ·have c':(a.length:Int)=b.length:=by omega
  rw[ZbB,if_pos c];refine kw1 kO (kc1 @c') kc0 ?_;refine Zae (λ(k:Nat)=>k<=a.length/\a.take k=b.take k) (λ k=>[(0, .d (Zbh a)),(1, .d (Zbh b)),(5, .int k)]) (λ k=>[]) (λ k=>a.length-k) 0 ?_ ?_ ?_
  ·exact⟨uG _,rfl⟩
  ·exact kN kc0 []
  ·rintro k ⟨hk,hinv⟩;rcases uC k a.length with hlt|hge
   ·obtain⟨x,hx⟩:=Zac hlt;obtain⟨y,hy⟩:=Zac (show k<b.length by omega);by_cases d:x=y
    ·subst d;refine kw1 kO (kc2 hx hy) kc0 ?_;refine⟨k+1,?_,kN kc0 [],?_⟩
     ·exact⟨by omega,by rw[ZaA hx,ZaA hy,hinv]⟩
     ·omega
    ·have d':¬(x:Int)=y:=by omega
     have e:ZbP a b=decide (x<y):=by
      obtain⟨h1,h2⟩:=uB.1 hx;obtain⟨h3,h4⟩:=uB.1 hy;rw[<-ZrE hinv,qS h1,qS h3,ZbP,h2,h4,if_neg d]
     rw[e];refine kw1 kO (kc3 hx hy @d') kc0 ?_;exact Zai (Cw.2 (by omega))
   ·have e:a=b:=by
     have h1:a.take k=a:=uE hge;have h2:b.take k=b:=uE (by omega);rw[h1,h2]at hinv;exact hinv
    subst e;rw[Go.Cy.lexLt_irr];refine kw1 kO kc0 kc0 ?_;exact rfl
 ·have c':¬(a.length:Int)=b.length:=by omega
  rw[ZbB,if_neg c];refine kw1 kO (kc1 @c') kc0 ?_;exact Zai (Cw.2 (by omega))
theorem ZAJ (n:Nat)(l:List NA)(R:List Nat)(hi:InN n l)(hn:n<=64)(hll:l.length<=256)(hP:Part n 0 R):Zah Tryz.prog 145 [.d (gD ((n:Int),castA l)), .ref 1000 1 0 n n] [(1000, .row 1 (R.map Zao)),(2000, .dead)] (.ref 2000 1 0 (ZaZ R l).length (ZaZ R l).length) [(1000, .row 1 (R.map Zao)),(2000, .row 1 ((ZaZ R l).map Zao))]:=by
 have hcl:=castA_len l;have hRl:R.length=n:=by have:=hP.len;omega
 refine kM Tryz.func145 ?_;intro B X w0;refine Zdi ?_;refine kw1 kP (kc1 hRl) kc0 ?_;refine Zae (λ(k:Nat)=>k<=n) (λ k=>[(1, .ref 1000 1 0 n n),(2, .ptr 2 0 0 0),(5, .ref 11 1 0 n n),(6, .int k)]) (λ k=>[(2, .cells [.int n, .d (Zal (castA l))]),(1000, .row 1 (R.map Zao)),(11, .row 1 (Zb3 n (plF R k)))]) (λ k=>n-k) 0 ?_ ?_ ?_
 ·exact uG _
 ·exact kN (kc1 (Zsz n R)) []
 ·intro k hk;rcases uC k n with hlt|hge
  ·obtain⟨v,hvk⟩:=Zac (show k<R.length by omega);have hvn:=hP.lt v (uA hvk);have hg:=Zf9 (plF R k) hvn;have hs:=Zth (n:=n) (f:=plF R k) (f':=plF R (k+1)) (i:=v) (x:=k) (λ w _=>ZsA hP.nd hvk w);refine kw1 kP (kc5 hvk hRl hg @Zfx hs) kc0 ?_;refine⟨k+1,?_,kN kc0 [],?_⟩
   ·omega
   ·omega
  ·have hk:n=k:=by omega
   subst hk;refine kw1 (kow (Nat.beq 25) (b:=false)) (kc2 hRl hcl) kc0 ?_;refine Zae (λ(k:Nat)=>k<=l.length) (λ k=>[(1, .ref 1000 1 0 n n),(2, .ptr 2 0 0 0),(5, .ref 11 1 0 n n),(7, .ref 901 1 0 (Zem R l k).length (Zem R l k).length),(8, .int k)]) (λ k=>[(2, .cells [.int n, .d (Zal (castA l))]),(1000, .row 1 (R.map Zao)),(11, .row 1 (Zb3 n (plF R n))),(901, .row 1 ((Zem R l k).map Zao))]) (λ k=>l.length-k) 0 ?_ ?_ ?_
   ·exact uG _
   ·exact kN kc0 [(901,25)]
   ·intro k hk;rcases uC k l.length with hlt|hge
    ·obtain⟨a,ha⟩:=Zac hlt;have hp:=castA_get ha;have hin:=hi a (uA ha);have g1:=Zf9 (plF R n) hin.1;have g2:=Zf9 (plF R n) hin.2;have q1:=Zly hP hin.1;have q2:=Zly hP hin.2;rw[hRl]at q1 q2;rw[q1]at g1;rw[q2]at g2;have hs:=Zpy R ha;have hbl:=Zpx R l k;rw[bwd]at hs;by_cases c:R.idxOf a.2<R.idxOf a.1
     ·rw[yB c,if_pos rfl]at hs;refine kw1 kP (kc6 hp hcl g1 g2 @Zfx @Zan) kc0 ?_;refine⟨k+1,?_,kN (kc6 hs @uH.{0} @yL.{0} @uR.{0,0} @uS.{0,0} @yE.{0,0}) [(901,55)],?_⟩
      ·omega
      ·omega
     ·rw[uU c,if_neg kK]at hs;refine kw1 kP (kc5 hp hcl g1 g2 @Zfx) kc0 ?_;refine⟨k+1,?_,kN (kc1 hs) [],?_⟩
      ·omega
      ·omega
    ·have hk:k=l.length:=by omega
     subst hk;have hbk:Zem R l l.length=ZaZ R l:=rfl;rw[hbk];refine kw1 kP (kc1 hcl) kc0 ?_;refine Za0 ?_;refine⟨_,ZbA.1 (kN (L:=[(4, .ref 2000 1 0 (ZaZ R l).length (ZaZ R l).length)]) (M:=[(1000, .row 1 (R.map Zao)),(2000, .row 1 ((ZaZ R l).map Zao))]) kc0 [(2000,901)]),?_⟩;exact⟨rfl,fmc ⟨rfl,fmc ⟨rfl,fmn⟩⟩⟩
def ZbG (o:Option (List Nat)):List Nat:=o.getD []
theorem Zuo (m:List Nat)(v:Nat){i x:Nat}(h:m[i]? =some x):decide (v∈m.take (i+1))=(decide (v∈m.take i)||decide (x=v)):=by
 rw[ZaA h,qV];simp only[yO,uT,qZ,uF];exact⟨λ h=>h.imp id Eq.symm,λ h=>h.imp id Eq.symm⟩
theorem ZCa (n:Nat)(l:List NA)(hi:InN n l)(hn:n<=64)(hll:l.length<=256):∀(f:Nat) (m:List Nat),Part n f m->
  Zah Tryz.prog 144 [.d (gD ((n:Int),castA l)), .ref 1000 1 0 m.length m.length] [(1000, .row 1 (m.map Zao)),(2000, .dead)] (.ref 2000 1 0 (Zb4 n l f m).length (Zb4 n l f m).length) [(1000, .row 1 (m.map Zao)),(2000, .row 1 ((Zb4 n l f m).map Zao))]:=by
 intro f
 induction f with
 |zero=>
  intro m hP;have hml:m.length=n:=by have:=hP.len;omega
  have hb:=ZAJ n l m hi hn hll hP;rw[<-hml]at hb;have e:Zb4 n l 0 m=ZaZ m l:=by rw[Zb4]
  rw[e];have c':(m.length:Int)=n:=by omega
  refine kM Tryz.func144 ?_;intro B X w0;refine Zdi ?_;rw[<-hml];refine kw1 kP kc0 (kc1 (kmc [(1000,1000),(2000,903)] hb)) ?_;refine Za0 ?_;refine⟨_,ZbA.1 (kN (L:=[(4, .ref 2000 1 0 (ZaZ m l).length (ZaZ m l).length)]) (M:=[(1000, .row 1 (m.map Zao)),(2000, .row 1 ((ZaZ m l).map Zao))]) kc0 [(2000,903)]),?_⟩;exact⟨rfl,fmc ⟨rfl,fmc ⟨rfl,fmn⟩⟩⟩
 |succ f IH=>
  intro m hP;have hmn:m.length+(f+1)=n:=hP.len;have hml:¬(m.length:Int)=n:=by omega
  have e0:Zb4 n l (f+1) m=ZbG (ZaW n l f m n):=by rw[Zb4];rfl
  rw[e0];refine kM Tryz.func144 ?_;intro B X w0;refine Zdi ?_;refine kw1 (kow (λ s=>(Nat.beq 20 s).or (Nat.beq 44 s)) (b:=false)) (kc1 hml) kc0 ?_;refine Zae (λ(v:Nat)=>v<=n) (λ v=>[(1, .ref 1000 1 0 m.length m.length),(2, .ptr 2 0 0 0),(5, .ref 902 1 0 (ZbG (ZaW n l f m v)).length (ZbG (ZaW n l f m v)).length),(6, .bool (ZaW n l f m v).isSome),(7, .int v)]) (λ v=>[(2, .cells [.int n, .d (Zal (castA l))]),(1000, .row 1 (m.map Zao)),(902, .row 1 ((ZbG (ZaW n l f m v)).map Zao))]) (λ v=>n-v) 0 ?_ ?_ ?_
  ·exact uG _
  ·exact eL [(902,20)] _ _ (by refine⟨?_,?_⟩<;>(repeat' first|exact fmn|refine fmc ⟨(by first|rfl|(simp(disch:=omega) only[go_sem,simprocAttr,inL,ZaW,ZbG,Cr,Option.getD_none,uW,yE];first|done|omega|(congr 1;done))),?_⟩);done)
  ·intro v hv;rcases uC v n with hlt|hge
   ·have hmb:=hmn;refine kw1 kP (kc1 hml) kc0 ?_;refine Zae (λ(i:Nat)=>i<=m.length) (λ i=>[(1, .ref 1000 1 0 m.length m.length),(2, .ptr 2 0 0 0),(5, .ref 902 1 0 (ZbG (ZaW n l f m v)).length (ZbG (ZaW n l f m v)).length),(6, .bool (ZaW n l f m v).isSome),(7, .int v),(8, .bool (decide (v∈m.take i))),(9, .int i)]) (λ i=>[(2, .cells [.int n, .d (Zal (castA l))]),(1000, .row 1 (m.map Zao)),(902, .row 1 ((ZbG (ZaW n l f m v)).map Zao))]) (λ i=>m.length-i) 0 ?_ ?_ ?_
    ·exact uG _
    ·exact kN (kc3 @yU.{0} @gP.{0} @Bc) []
    ·intro i hil;rcases uC i m.length with hi2|hi2
     ·obtain⟨x,hx⟩:=Zac hi2;have hu:=Zuo m v hx;rcases hb:decide (v∈m.take i)with _|_
      ·rw[hb]at hu;by_cases d:x=v
       ·subst d;rw[yB rfl]at hu;refine kw1 kP (kc2 hx @uD.{0,0}) kc0 ?_;refine⟨i+1,?_,kN (kc2 hu @Cb) [],?_⟩
        ·omega
        ·omega
       ·rw[uU d]at hu;have d':¬(x:Int)=v:=by omega
        refine kw1 kP (kc3 hx @uD.{0,0} @d') kc0 ?_;refine⟨i+1,?_,kN (kc2 hu @Bool.or_self) [],?_⟩
        ·omega
        ·omega
      ·rw[hb]at hu;refine kw1 kP (kc2 hx @uD.{0,0}) kc0 ?_;refine⟨i+1,?_,kN (kc2 hu @Dc) [],?_⟩
       ·omega
       ·omega
     ·have him:i=m.length:=by omega
      subst him;rw[yH];by_cases c:v∈m
      ·rw[yB c];have e:ZaW n l f m (v+1)=ZaW n l f m v:=by rw[ZaW,if_pos c]
       refine kw1 kP (kc1 @uD.{0,0}) kc0 ?_;refine⟨v+1,?_,kN (kc1 e) [],?_⟩
       ·omega
       ·omega
      ·rw[uU c];have hP':=hP.snoc hlt c;have ih:=IH (m++[v]) hP';have e:ZaW n l f m (v+1)=ZdH (ZaW n l f m v) (Zb4 n l f (m++[v])):=by rw[ZaW,if_neg c]
       have hsl:=Go.Cy.srch_len n l hP';obtain⟨s,hs⟩:∃s,s=Zb4 n l f (m++[v]):=⟨_,rfl⟩;rw[<-hs]at ih e hsl;simp only[uH,uX,uW,uR,uS,yE,qM]at ih;rcases hst:ZaW n l f m v with _|b
       ·rw[hst]at e;have e1:ZbG none=[]:=rfl;have e2:(none:Option (List Nat)).isSome=false:=rfl;have e3:ZdH none s=some s:=rfl;rw[e1,e2];refine kw1 (kow (Nat.beq 44) (b:=false)) (kc2 @uD.{0,0} @Zan) (kc1 (kmc [(1000,52),(2000,903)] ih)) ?_;refine⟨v+1,?_,kN (kc5 e e3 @ZbG.eq_1 @yK.{0} @kI.{0}) [(902,903)],?_⟩
        ·omega
        ·omega
       ·rw[hst]at e;have e1:ZbG (some b)=b:=rfl;have e2:(some b:Option (List Nat)).isSome=true:=rfl;rw[e1,e2];have hls:=Ztd s b;rcases hl2:ZbB s b with _|_
        ·have e3:ZdH (some b) s=some b:=by simp[ZdH,hl2]
         rw[hl2]at hls;refine kw1 (kow (Nat.beq 44) (b:=false)) (kc2 @uD.{0,0} @Zan) (kc2 (kmc [(1000,52),(2000,903)] ih) hls) ?_;refine⟨v+1,?_,kN (kc5 e e3 @ZbG.eq_1 @yK.{0} @kI.{0}) [],?_⟩
         ·omega
         ·omega
        ·have e3:ZdH (some b) s=some s:=by simp[ZdH,hl2]
         rw[hl2]at hls;refine kw1 (kow (Nat.beq 44) (b:=false)) (kc2 @uD.{0,0} @Zan) (kc2 (kmc [(1000,52),(2000,903)] ih) hls) ?_;refine⟨v+1,?_,kN (kc5 e e3 @ZbG.eq_1 @yK.{0} @kI.{0}) [(902,903)],?_⟩
         ·omega
         ·omega
   ·have hvn:n=v:=by omega
    subst hvn;refine kw1 kP kc0 kc0 ?_;refine Za0 ?_;refine⟨_,ZbA.1 (kN (L:=[(4, .ref 2000 1 0 (ZbG (ZaW n l f m n)).length (ZbG (ZaW n l f m n)).length)]) (M:=[(1000, .row 1 (m.map Zao)),(2000, .row 1 ((ZbG (ZaW n l f m n)).map Zao))]) kc0 [(2000,902)]),?_⟩;exact⟨rfl,fmc ⟨rfl,fmc ⟨rfl,fmn⟩⟩⟩
theorem ZB9 (n:Nat)(l:List NA)(hi:InN n l)(hn:n<=64)(hll:l.length<=256)(f:Nat)(m:List Nat)(hP:Part n (f+1) m):
  Zaa Tryz.prog 144 [gD ((n:Int),castA l),Zbh m] (Zbh (Zb4 n l (f+1) m)):=by
  have IH:=ZCa n l hi hn hll f;have hmn:m.length+(f+1)=n:=hP.len;have hml:¬(m.length:Int)=n:=by omega
  have e0:Zb4 n l (f+1) m=ZbG (ZaW n l f m n):=by rw[Zb4];rfl
  rw[e0];refine kE Tryz.func144 ?_;intro hat B X w0;refine kw1 (kow (λ s=>(Nat.beq 20 s).or (Nat.beq 44 s)) (b:=true)) (kc1 hml) kc0 ?_;refine Zae (λ(v:Nat)=>v<=n) (λ v=>[(1, .d (Zbh m)),(2, .ptr 2 0 0 0),(5, .ref 902 1 0 (ZbG (ZaW n l f m v)).length (ZbG (ZaW n l f m v)).length),(6, .bool (ZaW n l f m v).isSome),(7, .int v)]) (λ v=>[(2, .cells [.int n, .d (Zal (castA l))]),(902, .row 1 ((ZbG (ZaW n l f m v)).map Zao))]) (λ v=>n-v) 0 ?_ ?_ ?_
  ·exact uG _
  ·exact eL [(902,20)] _ _ (by refine⟨?_,?_⟩<;>(repeat' first|exact fmn|refine fmc ⟨(by first|rfl|(simp(disch:=omega) only[go_sem,simprocAttr,inL,ZaW,ZbG,Cr,Option.getD_none,uW,yE];first|done|omega|(congr 1;done))),?_⟩);done)
  ·intro v hv;rcases uC v n with hlt|hge
   ·have hmb:=hmn;refine kw1 kO (kc1 hml) kc0 ?_;refine Zae (λ(i:Nat)=>i<=m.length) (λ i=>[(1, .d (Zbh m)),(2, .ptr 2 0 0 0),(5, .ref 902 1 0 (ZbG (ZaW n l f m v)).length (ZbG (ZaW n l f m v)).length),(6, .bool (ZaW n l f m v).isSome),(7, .int v),(8, .bool (decide (v∈m.take i))),(9, .int i)]) (λ i=>[(2, .cells [.int n, .d (Zal (castA l))]),(902, .row 1 ((ZbG (ZaW n l f m v)).map Zao))]) (λ i=>m.length-i) 0 ?_ ?_ ?_
    ·exact uG _
    ·exact kN (kc3 @yU.{0} @gP.{0} @Bc) []
    ·intro i hil;rcases uC i m.length with hi2|hi2
     ·obtain⟨x,hx⟩:=Zac hi2;have hu:=Zuo m v hx;rcases hb:decide (v∈m.take i)with _|_
      ·rw[hb]at hu;by_cases d:x=v
       ·subst d;rw[yB rfl]at hu;refine kw1 kO (kc2 hx @uD.{0,0}) kc0 ?_;refine⟨i+1,?_,kN (kc2 hu @Cb) [],?_⟩
        ·omega
        ·omega
       ·rw[uU d]at hu;have d':¬(x:Int)=v:=by omega
        refine kw1 kO (kc3 hx @uD.{0,0} @d') kc0 ?_;refine⟨i+1,?_,kN (kc2 hu @Bool.or_self) [],?_⟩
        ·omega
        ·omega
      ·rw[hb]at hu;refine kw1 kO (kc2 hx @uD.{0,0}) kc0 ?_;refine⟨i+1,?_,kN (kc2 hu @Dc) [],?_⟩
       ·omega
       ·omega
     ·have him:i=m.length:=by omega
      subst him;rw[yH];by_cases c:v∈m
      ·rw[yB c];have e:ZaW n l f m (v+1)=ZaW n l f m v:=by rw[ZaW,if_pos c]
       refine kw1 kO (kc1 @uD.{0,0}) kc0 ?_;refine⟨v+1,?_,kN (kc1 e) [],?_⟩
       ·omega
       ·omega
      ·rw[uU c];have hP':=hP.snoc hlt c;have ih:=IH (m++[v]) hP';have e:ZaW n l f m (v+1)=ZdH (ZaW n l f m v) (Zb4 n l f (m++[v])):=by rw[ZaW,if_neg c]
       have hsl:=Go.Cy.srch_len n l hP';obtain⟨s,hs⟩:∃s,s=Zb4 n l f (m++[v]):=⟨_,rfl⟩;rw[<-hs]at ih e hsl;simp only[uH,uX,uW,uR,uS,yE,qM]at ih;rcases hst:ZaW n l f m v with _|b
       ·rw[hst]at e;have e1:ZbG none=[]:=rfl;have e2:(none:Option (List Nat)).isSome=false:=rfl;have e3:ZdH none s=some s:=rfl;rw[e1,e2];refine kw1 (kow (Nat.beq 44) (b:=true)) (kc2 @uD.{0,0} @Zan) (kc1 (kmc [(1000,52),(2000,903)] ih)) ?_;refine⟨v+1,?_,kN (kc5 e e3 @ZbG.eq_1 @yK.{0} @kI.{0}) [(902,903)],?_⟩
        ·omega
        ·omega
       ·rw[hst]at e;have e1:ZbG (some b)=b:=rfl;have e2:(some b:Option (List Nat)).isSome=true:=rfl;rw[e1,e2];have hls:=Ztd s b;rcases hl2:ZbB s b with _|_
        ·have e3:ZdH (some b) s=some b:=by simp[ZdH,hl2]
         rw[hl2]at hls;refine kw1 (kow (Nat.beq 44) (b:=true)) (kc2 @uD.{0,0} @Zan) (kc2 (kmc [(1000,52),(2000,903)] ih) hls) ?_;refine⟨v+1,?_,kN (kc5 e e3 @ZbG.eq_1 @yK.{0} @kI.{0}) [],?_⟩
         ·omega
         ·omega
        ·have e3:ZdH (some b) s=some s:=by simp[ZdH,hl2]
         rw[hl2]at hls;refine kw1 (kow (Nat.beq 44) (b:=true)) (kc2 @uD.{0,0} @Zan) (kc2 (kmc [(1000,52),(2000,903)] ih) hls) ?_;refine⟨v+1,?_,kN (kc5 e e3 @ZbG.eq_1 @yK.{0} @kI.{0}) [(902,903)],?_⟩
         ·omega
         ·omega
   ·have hvn:n=v:=by omega
    subst hvn;refine kw1 kO kc0 kc0 ?_;exact Zch (o:=902) rfl rfl (by simp) (by rw[uE (by simp)])
theorem ZCb (n:Nat)(l:List NA)(hi:InN n l)(h8:n<=8)(hll:l.length<=256):Zaa Tryz.prog 144 [gD ((n:Int),castA l), .sl []] (Zbh (Zbn n l)):=by
 rw[<-Go.Cy.srch_least h8 hi (by omega)];cases n with
 |zero=>
  have hb:=ZAK 0 l [] hi (by omega) hll ⟨zF,by simp,rfl⟩;have e:Zb4 0 l 0 []=ZaZ [] l:=by rw[Zb4]
  rw[e];refine kE Tryz.func144 ?_;intro hat B X w0;refine kw1 kO kc0 (kc1 hb) ?_;exact rfl
 |succ f=>exact ZB9 (f+1) l hi (by omega) hll f [] ⟨zF,by simp,by simp⟩
theorem ZAW (n:Nat)(l:List NA)(h:gOk ((n:Int),castA l)=true)(hi:InN n l)(hll:l.length<=256)(h8:n<=8):Zaa Tryz.prog 87 [gD ((n:Int),castA l)] (.tup [Zbh (Zbn n l), .int 0]):=by
 have hv:Zaa Tryz.prog 86 [gD ((n:Int),castA l)] (.bool true):=h▸ZsV _;have hs:=ZCb n l hi h8 hll;refine kE Tryz.func87 ?_;intro hat B X w0;refine kw1 kO kc0 (kc2 hv hs) ?_;exact⟨_,rfl,rfl,rfl,trivial⟩
end Go.Proofs.YtjjbhjnpeenbkaaGreatDoor.Cyc
namespace Go.Proofs.YtjjbhjnpeenbkaaGreatDoor.Cyc
open Go Go.PS Go.Proofs
open Go.Cy (NA InN Zbn Za7 Zfc)
set_option maxRecDepth 100000
attribute [local irreducible] Zad wpG Zaa Zah
theorem rBreak8 (n:Nat)(l:List NA)(h:gOk ((n:Int),castA l)=true)(hi:InN n l)(hll:l.length<=256)(h8:n<=8):Zaa Tryz.prog 42 [gD ((n:Int),castA l)] (.tup [Zbh (Zbn n l),gD ((n:Int),castA (Za7 l (Zbn n l)))]):=by
 have hv:Zaa Tryz.prog 86 [gD ((n:Int),castA l)] (.bool true):=h▸ZsV _;have hF:=ZBw n l (Zbn n l) hll (Zrw n l);have hl:=ZAW n l h hi hll h8;refine kE Tryz.func42 ?_;intro hat B X w0;refine kw1 kO kc0 (kc3 hv hl hF) ?_;refine⟨_,rfl,?_,⟨_,_,_,_,rfl,?_⟩,trivial⟩
 ·rfl
 ·simp(disch:=omega) only[go_sem,simprocAttr]
end Go.Proofs.YtjjbhjnpeenbkaaGreatDoor.Cyc
