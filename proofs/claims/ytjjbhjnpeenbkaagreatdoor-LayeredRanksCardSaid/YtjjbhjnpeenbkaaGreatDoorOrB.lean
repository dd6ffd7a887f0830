/- Ordering: the matrix of a layer, by the program. -/
import Derived.Test.YtjjbhjnpeenbkaaGreatDoorOrA
import Derived.Test.YtjjbhjnpeenbkaaGreatDoorBaF
import Derived.Test.YtjjbhjnpeenbkaaGreatDoorC
set_option linter.unusedSimpArgs false
set_option linter.unusedVariables false
set_option maxHeartbeats 16000000
namespace Go.Proofs.YtjjbhjnpeenbkaaGreatDoor
open Go Go.PS Go.Proofs
set_option maxRecDepth 100000
attribute [local irreducible] Zad wpG Zaa Zah
theorem Zu3 (a:Lv)(i:Nat)(u v:Nat):ZdF a [] (Zay a.2.1 i) 0 i 0 u v=0:=by
 rw[ZdF,Zi7];split<;>rfl
theorem ZzM (a:Lv)(i:Nat)(hw:wide a)(hv:Zaw a=true)(hil:i<a.2.1.length):
  Zaa Tryz.prog 109 [lvD a, .int i] (Zag (orM a i)):=by
 obtain⟨y,hy⟩:=Zac hil;obtain⟨t1,t2⟩:=Zdy hv;have hyl:=Zde (uA hy);have hacc:=ZkE a [] (Zay a.2.1 i) (w:=0) (by decide) i;have haccS:∀t u v,ZdF a [] (Zay a.2.1 i) 0 i (t+1) u v=ZdF a [] (Zay a.2.1 i) 0 i t u v+Zak (ZaT a i (ZeV i t)) u v:=λ _ _ _=>rfl
 have haccZ:=Zu3 a i;have hMsq:∀t,Sq (ZaT a i (ZeV i t)):=λ t=>Zkx a i (ZeV i t)
 have hMlen:∀t,(ZaT a i (ZeV i t)).length=0\/(ZaT a i (ZeV i t)).length=y.length:=λ t=>by
  rw[ZaT];split
  ·right
   simp[Zc9,Zbt,ZcI,hy]
  ·left;rfl
 have hMs:∀t,Zaa Tryz.prog 177 [lvD a, .int i, .int (ZeV i t)] (Zag (ZaT a i (ZeV i t))):=λ t=>Zo8 a i (ZeV i t) hw
 rw[orM,stM];rw[Zeu hy]at*;generalize ZdF a [] y 0 i=A at*;obtain⟨Q,hQ⟩:∃Q:Nat->List (List Int),∀t,ZaT a i (ZeV i t)=Q t:=⟨_,λ _=>rfl⟩;simp only[hQ]at*;obtain⟨N,hN⟩:∃N,N=y.length:=⟨_,rfl⟩;have hN5:N<=512:=by omega
 obtain⟨n,ls,ar,cs⟩:=a;dsimp only at*;refine kE Tryz.func109 ?_;intro hat B X w0;refine kw1 kO (kc2 hy hN.symm) kc0 ?_;refine Zaq _ (Zju 1 19 1 N rfl (λ i hi=>by simp(disch:=omega) only[go_sem,simprocAttr,ZjZ,Zek]) (by decide) (by decide)) ?_;have hiN:∀(k:Nat) (x y:List D),k<N->(if k<N then x else y)=x:=λ k x y h=>if_pos h
 have hz:∀u,List.replicate N (D.int 0)=(Zbg (A 0 u) N).map D.int:=λ u=>by
  rw[Ztg];congr 1;exact Zhd λ v _=>(haccZ u v).symm
 refine Ze2 (λ(u:Nat)=>u<=N) (λ u=>[(1, .int i),(2, .ptr 2 0 0 0),(5, .ref 19 1 0 N N),(21, .int N),(22, .int u)]) (λ u=>[⟨1,19,1,N,λ k=>if k<u then(Zbg (A 0 k) N).map D.int else[]⟩]) (λ u=>[(2, .cells [.int n, .d (Zag ls), .d (Zal ar), .d (Zag cs)])]) (λ u=>N-u) 0 ?_ ?_ ?_
 ·exact uG _
 ·refine kF (kc1 hN.symm) [] [] ?_;exact kT0 (kc1 @An)
 ·intro u hu;rcases uC u N with hlt|hge
  ·have hzu:=hz u;have hnu:¬u<u:=by omega
   have hrl:=Zex (A 0 u) N;have hsu:∀i,i≠u->((i<u+1)=(i<u)):=λ i h=>propext (by omega)
   refine Zaq _ (ZfT _ _ [2,19] 19 u 900 1 1 N (by first|rfl|(simp(disch:=omega) only[go_sem,simprocAttr,hnu];done)|(simp(disch:=omega) only[go_sem,simprocAttr,hnu];rfl)) (by first|(simp(disch:=omega) only[go_sem,simprocAttr,hnu];done)|(simp(disch:=omega) only[go_sem,simprocAttr,hnu];rfl)) (by first|(simp(disch:=omega) only[go_sem,simprocAttr,hnu];done)|(simp(disch:=omega) only[go_sem,simprocAttr,hnu];rfl)) (λ i hi hne=>by simp(disch:=omega) only[go_sem,simprocAttr,hne,hnu];(repeat' split)<;>exact .ref _ _ _ _ _ ⟨by simp(disch:=omega) only[go_sem,simprocAttr,hne,hnu],by simp(disch:=omega) only[go_sem,simprocAttr,hne,hnu]⟩) (by(repeat' first|refine ZfI ?_|exact ZfJ (ids:=[2,19]) rfl rfl (uY rfl)|refine ZfH ?_|refine ZfK ?_|refine ZfF ?_|refine ZfL ?_|refine ZfM ?_|refine ZfG (by dsimp only;omega) (by dsimp only;omega) (by omega) (by omega) (uY rfl) ?_);done) rfl rfl rfl) ?_;refine kw1 kO (kc2 hN.symm hnu) kc0 ?_;refine⟨u+1,?_,kF kc0 [(fid 1 u,29)] [] ?_,?_⟩
   ·omega
   ·exact kT1 (kc6 hzu hrl hnu hsu @Dh @uD.{0,0}) u
   ·omega
  ·have:N=u:=by omega
   subst this
   try dsimp only
   obtain⟨F,hF⟩:∃F:List D,F=[D.int ((i:Int)-1),D.int ((i:Int)+1)]:=⟨_,rfl⟩;have hFl:F.length=2:=by rw[hF];rfl
   have hFx:∀t,t<2->F[t]? =some (D.int (ZeV i t)):=λ t ht=>by
    rw[hF];rcases t with _|_|t
    ·rfl
    ·rfl
    ·omega
   refine kw1 kO kc0 kc0 ?_;refine Ze2 (λ(t:Nat)=>t<=2) (λ t=>[(1, .int i),(2, .ptr 2 0 0 0),(5, .ref 19 1 0 N N),(36, .d (.sl F)),(37, .int 2),(38, .int t)]) (λ t=>[⟨1,19,1,N,λ k=>(Zbg (A t k) N).map D.int⟩]) (λ t=>[(2, .cells [.int n, .d (Zag ls), .d (Zal ar), .d (Zag cs)])]) (λ t=>2-t) 0 ?_ ?_ ?_
   ·exact uG _
   ·refine kF (kc1 hF) [] [] ?_
    repeat' first|exact fmn|refine fmc ⟨?_,?_⟩
    all_goals refine⟨_,(by first|rfl|(simp(disch:=omega) only[go_sem,simprocAttr,hiN];done)|(simp(disch:=omega) only[go_sem,simprocAttr,hiN];rfl)),λ i hi=>?_⟩
    all_goals dsimp only at hi|-
    all_goals try (exfalso;omega)
    all_goals try (simp(disch:=omega) only[go_sem,simprocAttr,hiN,Zd1,Zd4];done)
   ·intro t ht;rcases uC t 2 with hlt2|hge2
    ·have hx:=hFx t hlt2;have hM:=hMs t;have hsq:=hMsq t;have hml:=hMlen t;have hS:=haccS t;generalize hR:Q t=R at*;refine kw1 kO (kc1 hx) (kc1 hM) ?_;refine Ze2 (λ(c:Nat)=>c<=R.length) (λ c=>[(1, .int i),(2, .ptr 2 0 0 0),(5, .ref 19 1 0 N N),(36, .d (.sl F)),(37, .int 2),(38, .int t),(45, .d (Zag R)),(46, .int R.length),(47, .int c)]) (λ c=>[⟨1,19,1,N,λ k=>if k<c then(Zbg (A (t+1) k) N).map D.int else(Zbg (A t k) N).map D.int⟩]) (λ c=>[(2, .cells [.int n, .d (Zag ls), .d (Zal ar), .d (Zag cs)])]) (λ c=>R.length-c) 0 ?_ ?_ ?_
     ·exact uG _
     ·refine kF (kc1 hFl) [] [] ?_;exact kT0 (kc1 @An)
     ·intro c hc0;rcases uC c R.length with hlc|hgc
      ·have hRN:R.length=N:=by omega
       obtain⟨r,hr⟩:=Zac hlc;have hrl:=hsq.row r (uA hr);have hrN:r.length=N:=by omega
       have hnu:¬c<c:=by omega
       refine kw1 kO (kc2 hr hrN) kc0 ?_;refine Ze2 (λ(b:Nat)=>b<=N) (λ b=>[(1, .int i),(2, .ptr 2 0 0 0),(5, .ref 19 1 0 N N),(9, .int c),(36, .d (.sl F)),(37, .int 2),(38, .int t),(45, .d (Zag R)),(46, .int R.length),(47, .int c),(52, .d (Zab r)),(53, .int N),(54, .int b)]) (λ b=>[⟨1,19,1,N,λ k=>if k<c then(Zbg (A (t+1) k) N).map D.int else if k=c then(ZcK (A t c) (A (t+1) c) N b).map D.int else(Zbg (A t k) N).map D.int⟩]) (λ b=>[(2, .cells [.int n, .d (Zag ls), .d (Zal ar), .d (Zag cs)])]) (λ b=>N-b) 0 ?_ ?_ ?_
       ·exact uG _
       ·refine kF (kc1 hrN) [] [] ?_;exact kT1 (kc2 hnu @Zr3) c
       ·intro b hb;have hfl2:=ZjT (A t c) (A (t+1) c) N b;rcases uC b N with hlb|hgb
        ·obtain⟨p,hp,_,hpv,g1,g2⟩:=hsq.get hlc (show b<R.length by omega);rw[hr,yM]at hp;rw[<-hp]at hpv;have hcell:=hS c b;have ha:=hacc t c b;have hg:(ZcK (A t c) (A (t+1) c) N b)[b]? =some (A t c b):=Zr1 hlb;have hst:(ZcK (A t c) (A (t+1) c) N b).set b (A (t+1) c b)=ZcK (A t c) (A (t+1) c) N (b+1):=Zr2 hlb;rw[hcell]at hst;refine Zaq _ (ZfT _ _ [2,19] 19 c 900 1 1 N (by first|rfl|(simp(disch:=omega) only[go_sem,simprocAttr,hnu,hfl2];done)|(simp(disch:=omega) only[go_sem,simprocAttr,hnu,hfl2];rfl)) (by first|(simp(disch:=omega) only[go_sem,simprocAttr,hnu,hfl2];done)|(simp(disch:=omega) only[go_sem,simprocAttr,hnu,hfl2];rfl)) (by first|(simp(disch:=omega) only[go_sem,simprocAttr,hnu,hfl2];done)|(simp(disch:=omega) only[go_sem,simprocAttr,hnu,hfl2];rfl)) (λ i hi hne=>by simp(disch:=omega) only[go_sem,simprocAttr,hne,hnu,hfl2];(repeat' split)<;>exact .ref _ _ _ _ _ ⟨by simp(disch:=omega) only[go_sem,simprocAttr,hne,hnu,hfl2],by simp(disch:=omega) only[go_sem,simprocAttr,hne,hnu,hfl2]⟩) (by(repeat' first|refine ZfI ?_|exact ZfJ (ids:=[2,19]) rfl rfl (uY rfl)|refine ZfH ?_|refine ZfK ?_|refine ZfF ?_|refine ZfL ?_|refine ZfM ?_|refine ZfG (by dsimp only;omega) (by dsimp only;omega) (by omega) (by omega) (uY rfl) ?_);done) rfl rfl rfl) ?_;refine kw1 kO (kc6 hr hrN hpv hg hfl2 hnu) kc0 ?_;refine⟨b+1,?_,kF kc0 [(fid 1 c,900)] [] ?_,?_⟩
         ·omega
         ·exact kT1 (kc6 @hst.symm @yR.{0,0} @yJ.{0} @uD.{0,0} hfl2 hnu) c
         ·omega
        ·have:N=b:=by omega
         subst this;have hsu:∀i,i≠c->((i<c+1)=(i<c)):=λ i h=>propext (by omega)
         refine kw1 kO kc0 kc0 ?_;refine⟨c+1,?_,kF kc0 [] [] ?_,?_⟩
         ·omega
         ·exact kT1 (kc4 hnu hsu @Dh @Zr0) c
         ·omega
      ·have:R.length=c:=by omega
       subst this;refine kw1 kO kc0 kc0 ?_;rcases hml with hml|hml
       ·have hsame:∀k,Zbg (A (t+1) k) N=Zbg (A t k) N:=λ k=>Zhd λ v _=>by
         rw[hS,Zak,ZiK (by omega)];simp[at0]
        refine⟨t+1,?_,kF kc0 [] [] ?_,?_⟩
        ·omega
        ·exact kT0 (kc3 hml @An @hsame)
        ·omega
       ·have hRN:R.length=N:=by omega
        refine⟨t+1,?_,kF kc0 [] [] ?_,?_⟩
        ·omega
        ·repeat' first|exact fmn|refine fmc ⟨?_,?_⟩
         all_goals refine⟨_,(by first|rfl|(simp(disch:=omega) only[go_sem,simprocAttr,hRN,hiN];done)|(simp(disch:=omega) only[go_sem,simprocAttr,hRN,hiN];rfl)),λ i hi=>?_⟩
         all_goals dsimp only at hi|-
         all_goals try (exfalso;omega)
         all_goals try (simp(disch:=omega) only[go_sem,simprocAttr,hRN,hiN,Zd1,Zd4];done)
        ·omega
    ·have:t=2:=by omega
     subst this
     try dsimp only
     refine Zaq _ (Zjv _ _ _ _ ⟨ZbS rfl,ZbS rfl,(by(repeat' first|exact fmn|refine fmc ⟨⟨uY rfl,uY rfl,by dsimp only;omega⟩,?_⟩);done)⟩ rfl [2,19] rfl rfl rfl rfl) ?_;refine kw1 kO kc0 kc0 ?_;refine Zch (o:=19) rfl rfl (by simp) ?_;rw[uE (by simp),sqM,gR];rfl
open Go.Bd (sm Zat Part)
theorem Zz6 (a:Lv)(h:Zaw a=true):Zaa Tryz.prog 167 [lvD a] (lvD a):=by
 obtain⟨s1,s2,s3⟩:=ZiL h;obtain⟨t1,t2⟩:=Zdy h;have hca:=ZmJ a.2.2.1 (by omega);have hl1:∀(k:Nat) x,a.2.1[k]? =some x->Zaa Tryz.prog 214 [Zab x] (Zab x):=λ k x hx=>Ziz x (by have:=Zde (uA hx);omega)
 have hl2:∀(k:Nat) x,a.2.2.2[k]? =some x->Zaa Tryz.prog 214 [Zab x] (Zab x):=λ k x hx=>Ziz x (by have:=s3 x (uA hx);omega)
 obtain⟨n,ls,ar,cs⟩:=a;dsimp only at*;refine kE Tryz.func167 ?_;intro hat B X w0;refine kw1 kO kc0 (kc1 hca) ?_;refine Zaq _ (Zb9 3 1 901 1 rfl rfl rfl) ?_;refine Zae (λ(k:Nat)=>k<=ls.length) (λ k=>[(1, .ptr 1 0 0 0),(2, .ptr 2 0 0 0),(3, .ptr 3 0 0 0),(15, .d (Zag ls)),(16, .int ls.length),(17, .int k)]) (λ k=>[(1, .cells [.int n, .d (Zag ls), .d (Zal ar), .d (Zag cs)]),(2, .cells [.int 0, .nilS, .nilS, .nilS]),(3, .cells [.int n, .ref 901 1 0 k k, .d (Zal ar), .nilS]),(901, .row 1 ((ls.take k).map Zab))]) (λ k=>ls.length-k) 0 ?_ ?_ ?_
 ·exact uG _
 ·exact kN (kc2 @yU.{0} @yE.{0,0}) []
 ·intro k hk;have hlk:(ls.take k).length=k:=by rw[yF];omega
  have htk:((ls.take k).map Zab).take k=(ls.take k).map Zab:=uE (by rw[uD,hlk];exact uI _);rcases uC k ls.length with hlt|hge
  ·obtain⟨x,hx⟩:=Zac hlt;have hc1:=hl1 k x hx;have e1:=ZaA hx
   repeat' first|refine ZbH rfl ?_|refine Za0 ?_|refine wR ?_|(refine rc (hc1) rfl ?_ ?_;(· first|rfl|simp(disch:=omega) only[go_sem,simprocAttr,hx,hlk,htk,roomy]))|(refine ZbM rfl rfl (λ hc=>?_) (λ hc=>?_)<;>try simp only[hcL]at hc)|(refine ZbL _ rfl rfl (λ hc=>?_) (λ hc=>?_)<;>(try simp only[hcL]at hc)<;>try omega)|simp(disch:=omega) only[go_sem,simprocAttr,hx,hlk,htk,roomy]|exact λ d hd=>by rw[uT.1 hd];rfl|apply And.intro|omega|decide+kernel
   refine⟨k+1,?_,kN (kc5 e1 htk @uR.{0,0} @uS.{0,0} @yE.{0,0}) [(901,26)],?_⟩
   ·omega
   ·omega
  ·have:k=ls.length:=by omega
   subst this
   try dsimp only
   rw[yH];refine kw1 kO kc0 kc0 ?_;refine Zaq _ (Zb9 3 3 902 1 rfl rfl rfl) ?_;refine Zae (λ(k:Nat)=>k<=cs.length) (λ k=>[(2, .ptr 2 0 0 0),(3, .ptr 3 0 0 0),(30, .d (Zag cs)),(31, .int cs.length),(32, .int k)]) (λ k=>[(2, .cells [.int 0, .nilS, .nilS, .nilS]),(3, .cells [.int n, .ref 901 1 0 ls.length ls.length, .d (Zal ar), .ref 902 1 0 k k]),(901, .row 1 (ls.map Zab)),(902, .row 1 ((cs.take k).map Zab))]) (λ k=>cs.length-k) 0 ?_ ?_ ?_
   ·exact uG _
   ·exact kN (kc2 @yU.{0} @yE.{0,0}) []
   ·intro k hk;have hlk:(cs.take k).length=k:=by rw[yF];omega
    have htk:((cs.take k).map Zab).take k=(cs.take k).map Zab:=uE (by rw[uD,hlk];exact uI _);rcases uC k cs.length with hlt|hge
    ·obtain⟨x,hx⟩:=Zac hlt;have hc1:=hl2 k x hx;have e1:=ZaA hx
     repeat' first|refine ZbH rfl ?_|refine Za0 ?_|refine wR ?_|(refine rc (hc1) rfl ?_ ?_;(· first|rfl|simp(disch:=omega) only[go_sem,simprocAttr,hx,hlk,htk,roomy]))|(refine ZbM rfl rfl (λ hc=>?_) (λ hc=>?_)<;>try simp only[hcL]at hc)|(refine ZbL _ rfl rfl (λ hc=>?_) (λ hc=>?_)<;>(try simp only[hcL]at hc)<;>try omega)|simp(disch:=omega) only[go_sem,simprocAttr,hx,hlk,htk,roomy]|exact λ d hd=>by rw[uT.1 hd];rfl|apply And.intro|omega|decide+kernel
     refine⟨k+1,?_,kN (kc5 e1 htk @uR.{0,0} @uS.{0,0} @yE.{0,0}) [(902,41)],?_⟩
     ·omega
     ·omega
    ·have:k=cs.length:=by omega
     subst this
     try dsimp only
     rw[yH];refine kw1 kO kc0 kc0 ?_;refine⟨_,_,_,_,rfl,?_⟩;simp(disch:=omega) only[go_sem,simprocAttr,toD,uD,uI,qN];rw[Zan,Zan]
def Zd7 (m:List (List Int))(A b:Nat):Int:=sm (λ j=>if A<j then Zak m A j else 0) b
def Zg9 (m:List (List Int))(A:Nat):Int:=sm (λ A=>Zd7 m A m.length) A
theorem Zsc {m:List (List Int)}(hs:Sq m)(A b:Nat):0<=Zd7 m A b/\Zd7 m A b<=1000000*b:=Go.Bd.sm_bounds b λ k _=>by
 have:=ZpX hs A k;split<;>omega
theorem ZzF {m:List (List Int)}(hs:Sq m)(h8:m.length<=8)(A:Nat):0<=Zg9 m A/\Zg9 m A<=8000000*A:=
 Go.Bd.sm_bounds A λ k _=>by
  have:=Zsc hs k m.length;omega
theorem Zsd (m:List (List Int))(A:Nat):∀n,A<n->Zd7 m A n=sm (λ j=>Zak m A (A+1+j)) (n-1-A)
 |0,h=>by omega
 |n+1,h=>by
  have e:Zd7 m A (n+1)=Zd7 m A n+(if A<n then Zak m A n else 0):=rfl;rw[e];by_cases c:A<n
  ·rw[Zsd m A n c,if_pos c,show n+1-1-A=(n-1-A)+1 by omega];have e2:sm (λ j=>Zak m A (A+1+j)) (n-1-A+1)=sm (λ j=>Zak m A (A+1+j)) (n-1-A)+Zak m A (A+1+(n-1-A)):=rfl;rw[e2,show A+1+(n-1-A)=n by omega]
  ·have:n=A:=by omega
   subst this;have z:∀k,k<=n->Zd7 m n k=0:=by
    intro k
    induction k with
    |zero=>intro _;rfl
    |succ k ih=>
     intro hk;have e3:Zd7 m n (k+1)=Zd7 m n k+(if n<k then Zak m n k else 0):=rfl;rw[e3,ih (by omega),if_neg (by omega)];rfl
   rw[z n (uI _),if_neg c,show n+1-1-n=0 by omega];rfl
theorem sm_congr {f g:Nat->Int}:∀n,(∀k,k<n->f k=g k)->sm f n=sm g n
 |0,_=>rfl
 |n+1,h=>by
  have e:∀f:Nat->Int,sm f (n+1)=sm f n+f n:=λ _=>rfl
  rw[e,e,sm_congr n λ k hk=>h k (by omega),h n (by omega)]
theorem ZzG (m:List (List Int)):Zg9 m m.length=Zat (Zak m) (List.range m.length):=by
 rw[Go.Bd.sumC_range,Zg9];exact sm_congr _ λ A hA=>Zsd m A _ hA
theorem Zz4 (l:List Int)(hl:l.length<=1000000):Zaa Tryz.prog 52 [Zab l] (.bool (decide (l.length<=8))):=by
 refine kE Tryz.func52 ?_;intro hat B X w0;refine kw1 kO kc0 kc0 ?_;exact Zai (by rw[qV];simp only[uF];omega)
theorem ZvO (a:Lv)(i:Nat)(hw:wide a)(hv:Zaw a=true)(har:a.2.2.1.length<=700)(hil:i<a.2.1.length):
  Zaa Tryz.prog 53 [lvD a, .int i] (.tup [Zbh (ZcM a i).1, .bool (ZcM a i).2]):=by
 obtain⟨y,hy⟩:=Zac hil;have hyl:=Zde (uA hy);obtain⟨t1,t2⟩:=Zdy hv;have h1:=Zz4 y (by omega);rw[ZcM,Zeu hy];by_cases h8:8<y.length
 ·rw[if_pos h8];rw[uU (by omega)]at h1;obtain⟨n,ls,ar,cs⟩:=a;dsimp only at*;refine kE Tryz.func53 ?_;intro hat B X w0;refine kw1 kO (kc1 hy) (kc1 h1) ?_;exact⟨_,rfl,ZdB rfl,Zai rfl,trivial⟩
 ·rw[if_neg h8];rw[yB (by omega)]at h1;have h2:=ZzM a i hw hv hil;have hmok:=ZzU (i:=i) har (by rw[Zeu hy];exact h8);have h3:=Zjf (orM a i);rw[if_pos hmok]at h3;obtain⟨hs,hm8⟩:=ZnP hmok;have hml:=Zsh a i;rw[Zeu hy]at hml;have hns:=ZzG (orM a i);have hbb:0<=(Zc1 (orM a i)).2/\(Zc1 (orM a i)).2<=64000000:=by
   obtain⟨g1,g2,_⟩:=Go.Bd.best_bounds hs.small hm8 (Zj6 _) (Zmw (orM a i));exact⟨g1,g2⟩
  rw[ZhH,Zeu hy,<-hml,<-hns];have hni:=Zsc hs;have hnt:=ZzF hs hm8;have hIs:∀A b,Zd7 (orM a i) A (b+1)=Zd7 (orM a i) A b+(if A<b then Zak (orM a i) A b else 0):=λ _ _=>rfl
  have hTs:∀A,Zg9 (orM a i) (A+1)=Zg9 (orM a i) A+Zd7 (orM a i) A (orM a i).length:=λ _=>rfl
  have hI0:∀A,Zd7 (orM a i) A 0=0:=λ _=>rfl
  have hT0:Zg9 (orM a i) 0=0:=rfl;generalize orM a i=m at*;generalize Zd7 m=I at*;generalize Zg9 m=T at*;generalize Zc1 m=BB at*;obtain⟨p,cost⟩:=BB;obtain⟨n,ls,ar,cs⟩:=a;dsimp only at*;refine kE Tryz.func53 ?_;intro hat B X w0;refine kw1 kO (kc1 hy) (kc2 h1 h2) ?_;refine Zae (λ(u:Nat)=>u<=m.length) (λ u=>[(6, .d (Zag m)),(7, .int (T u)),(24, .int m.length),(25, .int u)]) (λ u=>[]) (λ u=>m.length-u) 0 ?_ ?_ ?_
  ·exact uG _
  ·exact kN (kc1 hT0) []
  ·intro u hu;have b1:=hnt u;rcases uC u m.length with hlt|hge
   ·have e1:=hTs u;refine kw1 kO kc0 kc0 ?_;refine Zae (λ(b:Nat)=>b<=m.length) (λ b=>[(6, .d (Zag m)),(7, .int (T u+I u b)),(8, .int u),(24, .int m.length),(25, .int u),(29, .int m.length),(30, .int b)]) (λ b=>[]) (λ b=>m.length-b) 0 ?_ ?_ ?_
    ·exact uG _
    ·exact kN (kc2 hI0 @jW) []
    ·intro b hb;have b2:=hni u b;rcases uC b m.length with hlb|hgb
     ·obtain⟨q,hq,hql,hqv,g1,g2⟩:=hs.get hlt hlb;have e2:=hIs u b;by_cases c:u<b
      ·rw[if_pos c]at e2;refine kw1 kO (kc4 hq hqv hql c) kc0 ?_;refine⟨b+1,?_,kN (kc2 e2 @zB) [],?_⟩
       ·omega
       ·omega
      ·rw[if_neg c,jW]at e2;refine kw1 kO (kc1 c) kc0 ?_;refine⟨b+1,?_,kN (kc1 e2) [],?_⟩
       ·omega
       ·omega
     ·have:b=m.length:=by omega
      subst this;refine kw1 kO kc0 kc0 ?_;refine⟨u+1,?_,kN (kc1 e1) [],?_⟩
      ·omega
      ·omega
   ·have:u=m.length:=by omega
    subst this;refine kw1 kO kc0 (kc1 h3) ?_;refine⟨_,rfl,ZdB rfl,Zai ?_,trivial⟩;rw[qV]
theorem Zvt (a:Lv)(i:Nat)(o:List Nat)(hw:wide a)(hv:Zaw a=true)(hil:i<a.2.1.length)(ho:Part (Zay a.2.1 i).length 0 o):
  Zaa Tryz.prog 168 [lvD a, .int i,Zbh o] (lvD (Zcc a i (ZaM (Zay a.2.1 i) o))):=by
 obtain⟨y,hy⟩:=Zac hil;have hyl:=Zde (uA hy);obtain⟨t1,t2⟩:=Zdy hv;rw[Zeu hy]at ho|-;have hol:=ho.len;have hr:=Zpd a i (ZaM y o) hw (by rw[ZnZ];omega);rw[ZBq hv hy ho]at hr;generalize Zcc a i (ZaM y o)=P at*;obtain⟨n',ls',ar',cs'⟩:=P;obtain⟨n,ls,ar,cs⟩:=a;dsimp only at*;refine kE Tryz.func168 ?_;intro hat B X w0;refine kw1 kO kc0 kc0 ?_;refine Zaq _ (Zc3 7 901 1 rfl rfl) ?_;refine Zae (λ(k:Nat)=>k<=o.length) (λ k=>[(1, .int i),(3, .ptr 3 0 0 0),(6, .ptr 6 0 0 0),(7, .ref 901 1 0 k k),(12, .d (Zbh o)),(13, .int o.length),(14, .int k)]) (λ k=>[(3, .cells [.int n, .d (Zag ls), .d (Zal ar), .d (Zag cs)]),(6, .cells [.int 0, .nilS, .nilS, .nilS]),(901, .row 1 (((ZaM y o).take k).map D.int))]) (λ k=>o.length-k) 0 ?_ ?_ ?_
 ·exact uG _
 ·exact kN (kc2 @yU.{0} @yE.{0,0}) []
 ·intro k hk;have hlk:((ZaM y o).take k).length=k:=by rw[yF,ZnZ];omega
  have htk:(((ZaM y o).take k).map D.int).take k=((ZaM y o).take k).map D.int:=uE (by rw[uD,hlk];exact uI _);rcases uC k o.length with hlt|hge
  ·obtain⟨q,hq⟩:=Zac hlt;have hqn:=ho.lt q (uA hq);have hyq:y[q]? =some (yG y q):=by rw[yG,uQ hqn];rfl
   have e1:(ZaM y o).take (k+1)=(ZaM y o).take k++[yG y q]:=ZaA (by rw[ZaM,uJ,hq];rfl);generalize(ZaM y o).take k=R at*;refine kw1 kO (kc5 hy hq hyq hlk htk) kc0 ?_;refine⟨k+1,?_,kN (kc5 e1 htk @uR.{0,0} @uS.{0,0} @yE.{0,0}) [(901,28)],?_⟩
   ·omega
   ·omega
  ·have:k=o.length:=by omega
   subst this;have hfull:(ZaM y o).take o.length=ZaM y o:=uE (by rw[ZnZ];exact uI _);rw[hfull]at hlk htk;rw[hfull];refine Zaq _ (Zc2 901 1 ((ZaM y o).map D.int) rfl (ZcS _ rfl) (by decide)) ?_;refine kw1 kO (kc3 hlk htk @qN.{0}) (kc1 hr) ?_;refine⟨_,_,_,_,rfl,?_⟩;simp(disch:=omega) only[go_sem,simprocAttr,toD]
theorem ZuV (a:Lv)(hw:wide a)(har:a.2.2.1.length<=700):Zaa Tryz.prog 104 [lvD a] (lvD (if Zaw a then Zfw a else lv0)):=by
 have h1:=ZhD a hw;rcases hv:Zaw a with _|_<;>rw[hv]at h1
 ·rw[if_neg (by decide)];refine kE Tryz.func104 ?_;intro hat B X w0;refine kw1 kO kc0 (kc1 h1) ?_;refine⟨_,_,_,_,rfl,?_⟩;simp(disch:=omega) only[go_sem,simprocAttr,toD];rfl
 ·rw[if_pos rfl];obtain⟨t1,t2⟩:=Zdy hv;have h2:=Zz6 a hv;have hK0:=Kin.refl hv hw;have h3:∀(b:Lv) (i:Nat),Kin a b->i<a.2.1.length->Zaa Tryz.prog 53 [lvD b, .int i] (.tup [Zbh (ZcM b i).1, .bool (ZcM b i).2]):=λ b i h hi=>ZvO b i h.wd h.ok (by rw[h.arcs];exact har) (by rw[h.len];exact hi)
  have h4:∀(b:Lv) (i:Nat),Kin a b->i<a.2.1.length->(ZcM b i).2=true->Zaa Tryz.prog 168 [lvD b, .int i,Zbh (ZcM b i).1] (lvD (Zfe b i)):=λ b i h hi hb=>by
   have hy:=Zmx hb;have e:(ZcM b i).1=(Zc1 (orM b i)).1:=by rw[ZcM,if_neg hy.1]
   rw[e];exact Zvt b i _ h.wd h.ok (by rw[h.len];exact hi) (ZnS b i)
  obtain⟨M,hM⟩:∃M,M=Zed a 0:=⟨_,rfl⟩;rw[Zfw,<-hM];generalize hR:ZbY M a 0=R;obtain⟨L,hL⟩:∃L,L=a.2.1.length:=⟨_,rfl⟩;rw[<-hL]at h3 h4 t1;refine kE Tryz.func104 ?_;intro hat B X w0;refine kw1 kO kc0 (kc2 h1 h2) ?_;refine Zae (λ(q:Nat×Lv×Nat)=>match q with|(f,b,i)=>Kin a b/\Zed b i<=f/\i<=L/\ZbY f b i=R) (λ(f,b,i)=>[(1, .ptr 1 0 0 0),(2, .ptr 2 0 0 0),(3, .int i)]) (λ(f,b,i)=>[(1, .cells [.int b.1, .d (Zag b.2.1), .d (Zal b.2.2.1), .d (Zag b.2.2.2)]),(2, .cells [.int 0, .nilS, .nilS, .nilS])]) (λ(f,b,i)=>f) (M,a,0) ?_ ?_ ?_
  ·exact⟨hK0,Nat.le_of_eq hM.symm,uG _,hR⟩
  ·exact kN kc0 []
  ·rintro⟨f,b,i⟩ ⟨hK,hms,hi,hres⟩;dsimp only at hK hms hi hres|-;have hbl:b.2.1.length=L:=by rw[hK.len,hL]
   rcases uC i L with hlt|hge
   ·have hf:0<f:=by
     have:Zed b i=(Zbk b).toNat*(b.2.1.length+1)+(b.2.1.length-i):=rfl;omega
    obtain⟨f,rfl⟩:∃g,f=g+1:=⟨f-1,by omega⟩;rw[ZbY,if_pos (by omega)]at hres;have c1:=h3 b i hK hlt;rcases hb:(ZcM b i).2 with _|_
    ·rw[hb]at c1;rw[hb,if_neg (by decide)]at hres;have hs:=Zr6 (b:=b) (i:=i) (by omega);clear h3 h4;obtain⟨n,ls,ar,cs⟩:=b;dsimp only at hbl hb c1|-;refine kw1 kO (kc1 hbl) (kc1 c1) ?_;refine⟨(f,(n,ls,ar,cs),i+1),?_,kN (kc2 @qQ @gY) [],?_⟩
     ·exact⟨hK,by dsimp only;omega,hlt,hres⟩
     ·exact Nat.lt_succ_self _
    ·have c2:=h4 b i hK hlt hb;rw[hb]at c1;rw[hb,if_pos rfl]at hres;have hs:=Zr5 hK (by omega) (Zmx hb).2;have hK2:=Zmy hK (i:=i) (by omega);clear h3 h4;generalize Zfe b i=P at*;obtain⟨n,ls,ar,cs⟩:=b;dsimp only at hbl hb c1 c2|-;refine kw1 kO (kc1 hbl) (kc2 c1 c2) ?_;refine⟨(f,P,0),?_,kN kc0 [],?_⟩
     ·exact⟨hK2,by dsimp only;omega,uG _,hres⟩
     ·exact Nat.lt_succ_self _
   ·rw[Zs0 (by omega)]at hres;subst hres;obtain⟨n,ls,ar,cs⟩:=b;dsimp only at hbl|-;refine kw1 kO (kc1 hbl) kc0 ?_;refine⟨_,_,_,_,rfl,?_⟩;simp(disch:=omega) only[go_sem,simprocAttr,toD]
def Zh6 (a:Lv)(r:Int):Lv×Int×Int:=
 if Zaw a=true/\0<=r/\r<=100 then(Zfw (Zct a r.toNat),Zbk (Zfw (Zct a r.toNat)),0)else(lv0,0,1)
theorem ZzH (a:Lv)(r:Int)(hw:wide a)(har:a.2.2.1.length<=700):Zaa Tryz.prog 50 [lvD a, .int r] (.tup [lvD (Zh6 a r).1, .int (Zh6 a r).2.1, .int (Zh6 a r).2.2]):=by
 have h1:=ZhD a hw;rw[Zh6];by_cases hall:Zaw a=true/\0<=r/\r<=100
 ·rw[if_pos hall];obtain⟨hv,hr0,hr1⟩:=hall;rw[hv]at h1;obtain⟨t1,t2⟩:=Zdy hv;have hb:=Zvy a r hw har;have hrr:ZgI r=r.toNat:=by rw[ZgI];omega
  rw[ZkV,if_pos hv,hrr]at hb;have hK:=ZpO hv hw r.toNat;have h3:=ZuV (Zct a r.toNat) hK.wd (by rw[hK.arcs];exact har);rw[if_pos hK.ok]at h3;have hK2:=(ZBd hK.ok hK.wd).1;have h4:=Zpe (Zfw (Zct a r.toNat)) hK2.wd (by rw[hK2.len,hK.len];omega);dsimp only at hb|-;generalize Zfw (Zct a r.toNat)=Q at*;generalize Zct a r.toNat=P at*;generalize Zbk P=tp at*;generalize Zbk Q=tq at*;clear hK hK2;obtain⟨n1,ls1,ar1,cs1⟩:=Q;obtain⟨n2,ls2,ar2,cs2⟩:=P;refine kE Tryz.func50 ?_;intro hat B X w0;refine kw1 kO kc0 (kc4 h1 hb h3 h4) ?_;refine⟨_,rfl,⟨_,_,_,_,rfl,?_⟩,Zaf rfl,Zaf rfl,trivial⟩;simp(disch:=omega) only[go_sem,simprocAttr,toD]
 ·rw[if_neg hall];rcases hv:Zaw a with _|_<;>rw[hv]at h1
  ·refine kE Tryz.func50 ?_;intro hat B X w0;refine kw1 kO kc0 (kc1 h1) ?_;refine⟨_,rfl,⟨_,_,_,_,rfl,?_⟩,Zaf rfl,Zaf rfl,trivial⟩;simp(disch:=omega) only[go_sem,simprocAttr,toD];rfl
  ·have hn:¬(0<=r/\r<=100):=λ h=>hall ⟨hv,h⟩
   refine kE Tryz.func50 ?_;intro hat B X w0;refine kw kO kc0 (kc1 h1) ?_
   repeat' first|exact True.intro|refine Bn.mk ?_ ?_|intro hc
   all_goals
    refine⟨_,rfl,⟨_,_,_,_,rfl,?_⟩,Zaf rfl,Zaf rfl,trivial⟩;simp(disch:=omega) only[go_sem,simprocAttr,toD];rfl
end Go.Proofs.YtjjbhjnpeenbkaaGreatDoor
namespace Go.Proofs.YtjjbhjnpeenbkaaGreatDoor
open Go Go.PS Go.Proofs
set_option maxRecDepth 100000
attribute [local irreducible] Zad wpG Zaa Zah
open Go.Bd (sm Zat Part)
end Go.Proofs.YtjjbhjnpeenbkaaGreatDoor
namespace Go.Proofs.YtjjbhjnpeenbkaaGreatDoor
open Go Go.PS Go.Proofs
set_option maxRecDepth 100000
attribute [local irreducible] Zad wpG Zaa Zah
open Go.Bd (sm Zat Part)
end Go.Proofs.YtjjbhjnpeenbkaaGreatDoor
