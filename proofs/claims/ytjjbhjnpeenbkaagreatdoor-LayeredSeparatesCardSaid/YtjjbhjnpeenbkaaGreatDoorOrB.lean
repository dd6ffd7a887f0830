/- Ordering: the matrix of a layer, by the program. -/
import Derived.Test.YtjjbhjnpeenbkaaGreatDoorOrA
import Derived.Test.YtjjbhjnpeenbkaaGreatDoorBaF
import Derived.Test.YtjjbhjnpeenbkaaGreatDoorC
set_option linter.unusedSimpArgs false
set_option linter.unusedVariables false
set_option maxHeartbeats 16000000
namespace Go.Proofs.YtjjbhjnpeenbkaaGreatDoor
open Go Go.PS Go.Proofs
set_option maxRecDepth 100000
attribute [local irreducible] Zad wpG Zaa Zag
theorem Zwd (a:Lv)(i:Nat)(u v:Nat):ZdI a [] (Zaw a.2.1 i) 0 i 0 u v=0:=by
 rw[ZdI,Zjt];split<;>rfl
theorem ZAY (a:Lv)(i:Nat)(hw:wide a)(hv:Zar a=true)(hil:i<a.2.1.length):
  Zaa Tryz.prog 109 [lvD a, .int i] (Zae (orM a i)):=by
 obtain⟨y,hy⟩:=Zac hil;obtain⟨t1,t2⟩:=ZcV hv;have hyl:=Zdq (uA hy);have hacc:=ZkV a [] (Zaw a.2.1 i) (w:=0) (by decide) i;have haccS:∀t u v,ZdI a [] (Zaw a.2.1 i) 0 i (t+1) u v=ZdI a [] (Zaw a.2.1 i) 0 i t u v+Zak (ZaU a i (Ze4 i t)) u v:=λ _ _ _=>rfl
 have haccZ:=Zwd a i;have hMsq:∀t,Sq (ZaU a i (Ze4 i t)):=λ t=>ZkP a i (Ze4 i t)
 have hMlen:∀t,(ZaU a i (Ze4 i t)).length=0\/(ZaU a i (Ze4 i t)).length=y.length:=λ t=>by
  rw[ZaU];split
  ·right
   simp[Zc8,Zbm,ZcM,hy]
  ·left;rfl
 have hMs:∀t,Zaa Tryz.prog 177 [lvD a, .int i, .int (Ze4 i t)] (Zae (ZaU a i (Ze4 i t))):=λ t=>ZpI a i (Ze4 i t) hw
 rw[orM,stM];rw[ZdV hy]at*;generalize ZdI a [] y 0 i=A at*;obtain⟨Q,hQ⟩:∃Q:Nat->List (List Int),∀t,ZaU a i (Ze4 i t)=Q t:=⟨_,λ _=>rfl⟩;simp only[hQ]at*;obtain⟨N,hN⟩:∃N,N=y.length:=⟨_,rfl⟩;have hN5:N<=512:=by omega
 obtain⟨n,ls,ar,cs⟩:=a;dsimp only at*;refine kE Tryz.func109 ?_;intro hat B X w0;refine kw1 kO (kc2 hy hN.symm) kc0 ?_;refine Zao _ (ZjO 1 19 1 N rfl (λ i hi=>by simp(disch:=omega) only[go_sem,simprocAttr,Zkj,Zes]) (by decide) (by decide)) ?_;have hiN:∀(k:Nat) (x y:List D),k<N->(if k<N then x else y)=x:=λ k x y h=>if_pos h
 have hz:∀u,List.replicate N (D.int 0)=(Zbb (A 0 u) N).map D.int:=λ u=>by
  rw[Zuj];congr 1;exact Zhl λ v _=>(haccZ u v).symm
 refine Zfd (λ(u:Nat)=>u<=N) (λ u=>[(1, .int i),(2, .ptr 2 0 0 0),(5, .ref 19 1 0 N N),(21, .int N),(22, .int u)]) (λ u=>[⟨1,19,1,N,λ k=>if k<u then(Zbb (A 0 k) N).map D.int else[]⟩]) (λ u=>[(2, .cells [.int n, .d (Zae ls), .d (Zaj ar), .d (Zae cs)])]) (λ u=>N-u) 0 ?_ ?_ ?_
 ·exact uH _
 ·refine kF (kc1 hN.symm) [] [] ?_;exact kT0 (kc1 @zS)
 ·intro u hu;rcases uE u N with hlt|hge
  ·have hzu:=hz u;have hnu:¬u<u:=by omega
   have hrl:=ZeG (A 0 u) N;have hsu:∀i,i≠u->((i<u+1)=(i<u)):=λ i h=>propext (by omega)
   refine Zao _ (ZfT _ _ [2,19] 19 u 900 1 1 N (by first|rfl|(simp(disch:=omega) only[go_sem,simprocAttr,hnu];done)|(simp(disch:=omega) only[go_sem,simprocAttr,hnu];rfl)) (by first|(simp(disch:=omega) only[go_sem,simprocAttr,hnu];done)|(simp(disch:=omega) only[go_sem,simprocAttr,hnu];rfl)) (by first|(simp(disch:=omega) only[go_sem,simprocAttr,hnu];done)|(simp(disch:=omega) only[go_sem,simprocAttr,hnu];rfl)) (λ i hi hne=>by simp(disch:=omega) only[go_sem,simprocAttr,hne,hnu];(repeat' split)<;>exact .ref _ _ _ _ _ ⟨by simp(disch:=omega) only[go_sem,simprocAttr,hne,hnu],by simp(disch:=omega) only[go_sem,simprocAttr,hne,hnu]⟩) (by(repeat' first|refine ZfJ ?_|exact ZfK (ids:=[2,19]) rfl rfl (yA rfl)|refine ZfI ?_|refine ZfL ?_|refine ZfG ?_|refine ZfM ?_|refine ZfN ?_|refine ZfH (by dsimp only;omega) (by dsimp only;omega) (by omega) (by omega) (yA rfl) ?_);done) rfl rfl rfl) ?_;refine kw1 kO (kc2 hN.symm hnu) kc0 ?_;refine⟨u+1,?_,kF kc0 [(fid 1 u,29)] [] ?_,?_⟩
   ·omega
   ·exact kT1 (kc6 hzu hrl hnu hsu @Di @uC.{0,0}) u
   ·omega
  ·have:N=u:=by omega
   subst this
   try dsimp only
   obtain⟨F,hF⟩:∃F:List D,F=[D.int ((i:Int)-1),D.int ((i:Int)+1)]:=⟨_,rfl⟩;have hFl:F.length=2:=by rw[hF];rfl
   have hFx:∀t,t<2->F[t]? =some (D.int (Ze4 i t)):=λ t ht=>by
    rw[hF];rcases t with _|_|t
    ·rfl
    ·rfl
    ·omega
   refine kw1 kO kc0 kc0 ?_;refine Zfd (λ(t:Nat)=>t<=2) (λ t=>[(1, .int i),(2, .ptr 2 0 0 0),(5, .ref 19 1 0 N N),(36, .d (.sl F)),(37, .int 2),(38, .int t)]) (λ t=>[⟨1,19,1,N,λ k=>(Zbb (A t k) N).map D.int⟩]) (λ t=>[(2, .cells [.int n, .d (Zae ls), .d (Zaj ar), .d (Zae cs)])]) (λ t=>2-t) 0 ?_ ?_ ?_
   ·exact uH _
   ·refine kF (kc1 hF) [] [] ?_
    repeat' first|exact fmn|refine fmc ⟨?_,?_⟩
    all_goals refine⟨_,(by first|rfl|(simp(disch:=omega) only[go_sem,simprocAttr,hiN];done)|(simp(disch:=omega) only[go_sem,simprocAttr,hiN];rfl)),λ i hi=>?_⟩
    all_goals dsimp only at hi|-
    all_goals try (exfalso;omega)
    all_goals try (simp(disch:=omega) only[go_sem,simprocAttr,hiN,Zd8,Zeb];done)
   ·intro t ht;rcases uE t 2 with hlt2|hge2
    ·have hx:=hFx t hlt2;have hM:=hMs t;have hsq:=hMsq t;have hml:=hMlen t;have hS:=haccS t;generalize hR:Q t=R at*;refine kw1 kO (kc1 hx) (kc1 hM) ?_;refine Zfd (λ(c:Nat)=>c<=R.length) (λ c=>[(1, .int i),(2, .ptr 2 0 0 0),(5, .ref 19 1 0 N N),(36, .d (.sl F)),(37, .int 2),(38, .int t),(45, .d (Zae R)),(46, .int R.length),(47, .int c)]) (λ c=>[⟨1,19,1,N,λ k=>if k<c then(Zbb (A (t+1) k) N).map D.int else(Zbb (A t k) N).map D.int⟩]) (λ c=>[(2, .cells [.int n, .d (Zae ls), .d (Zaj ar), .d (Zae cs)])]) (λ c=>R.length-c) 0 ?_ ?_ ?_
     ·exact uH _
     ·refine kF (kc1 hFl) [] [] ?_;exact kT0 (kc1 @zS)
     ·intro c hc0;rcases uE c R.length with hlc|hgc
      ·have hRN:R.length=N:=by omega
       obtain⟨r,hr⟩:=Zac hlc;have hrl:=hsq.row r (uA hr);have hrN:r.length=N:=by omega
       have hnu:¬c<c:=by omega
       refine kw1 kO (kc2 hr hrN) kc0 ?_;refine Zfd (λ(b:Nat)=>b<=N) (λ b=>[(1, .int i),(2, .ptr 2 0 0 0),(5, .ref 19 1 0 N N),(9, .int c),(36, .d (.sl F)),(37, .int 2),(38, .int t),(45, .d (Zae R)),(46, .int R.length),(47, .int c),(52, .d (Zab r)),(53, .int N),(54, .int b)]) (λ b=>[⟨1,19,1,N,λ k=>if k<c then(Zbb (A (t+1) k) N).map D.int else if k=c then(ZcO (A t c) (A (t+1) c) N b).map D.int else(Zbb (A t k) N).map D.int⟩]) (λ b=>[(2, .cells [.int n, .d (Zae ls), .d (Zaj ar), .d (Zae cs)])]) (λ b=>N-b) 0 ?_ ?_ ?_
       ·exact uH _
       ·refine kF (kc1 hrN) [] [] ?_;exact kT1 (kc2 hnu @ZsR) c
       ·intro b hb;have hfl2:=Zkd (A t c) (A (t+1) c) N b;rcases uE b N with hlb|hgb
        ·obtain⟨p,hp,_,hpv,g1,g2⟩:=hsq.get hlc (show b<R.length by omega);rw[hr,yI]at hp;rw[<-hp]at hpv;have hcell:=hS c b;have ha:=hacc t c b;have hg:(ZcO (A t c) (A (t+1) c) N b)[b]? =some (A t c b):=ZsP hlb;have hst:(ZcO (A t c) (A (t+1) c) N b).set b (A (t+1) c b)=ZcO (A t c) (A (t+1) c) N (b+1):=ZsQ hlb;rw[hcell]at hst;refine Zao _ (ZfT _ _ [2,19] 19 c 900 1 1 N (by first|rfl|(simp(disch:=omega) only[go_sem,simprocAttr,hnu,hfl2];done)|(simp(disch:=omega) only[go_sem,simprocAttr,hnu,hfl2];rfl)) (by first|(simp(disch:=omega) only[go_sem,simprocAttr,hnu,hfl2];done)|(simp(disch:=omega) only[go_sem,simprocAttr,hnu,hfl2];rfl)) (by first|(simp(disch:=omega) only[go_sem,simprocAttr,hnu,hfl2];done)|(simp(disch:=omega) only[go_sem,simprocAttr,hnu,hfl2];rfl)) (λ i hi hne=>by simp(disch:=omega) only[go_sem,simprocAttr,hne,hnu,hfl2];(repeat' split)<;>exact .ref _ _ _ _ _ ⟨by simp(disch:=omega) only[go_sem,simprocAttr,hne,hnu,hfl2],by simp(disch:=omega) only[go_sem,simprocAttr,hne,hnu,hfl2]⟩) (by(repeat' first|refine ZfJ ?_|exact ZfK (ids:=[2,19]) rfl rfl (yA rfl)|refine ZfI ?_|refine ZfL ?_|refine ZfG ?_|refine ZfM ?_|refine ZfN ?_|refine ZfH (by dsimp only;omega) (by dsimp only;omega) (by omega) (by omega) (yA rfl) ?_);done) rfl rfl rfl) ?_;refine kw1 kO (kc6 hr hrN hpv hg hfl2 hnu) kc0 ?_;refine⟨b+1,?_,kF kc0 [(fid 1 c,900)] [] ?_,?_⟩
         ·omega
         ·exact kT1 (kc6 @hst.symm @yZ.{0,0} @yP.{0} @uC.{0,0} hfl2 hnu) c
         ·omega
        ·have:N=b:=by omega
         subst this;have hsu:∀i,i≠c->((i<c+1)=(i<c)):=λ i h=>propext (by omega)
         refine kw1 kO kc0 kc0 ?_;refine⟨c+1,?_,kF kc0 [] [] ?_,?_⟩
         ·omega
         ·exact kT1 (kc4 hnu hsu @Di @ZsO) c
         ·omega
      ·have:R.length=c:=by omega
       subst this;refine kw1 kO kc0 kc0 ?_;rcases hml with hml|hml
       ·have hsame:∀k,Zbb (A (t+1) k) N=Zbb (A t k) N:=λ k=>Zhl λ v _=>by
         rw[hS,Zak,Zi2 (by omega)];simp[at0]
        refine⟨t+1,?_,kF kc0 [] [] ?_,?_⟩
        ·omega
        ·exact kT0 (kc3 hml @zS @hsame)
        ·omega
       ·have hRN:R.length=N:=by omega
        refine⟨t+1,?_,kF kc0 [] [] ?_,?_⟩
        ·omega
        ·repeat' first|exact fmn|refine fmc ⟨?_,?_⟩
         all_goals refine⟨_,(by first|rfl|(simp(disch:=omega) only[go_sem,simprocAttr,hRN,hiN];done)|(simp(disch:=omega) only[go_sem,simprocAttr,hRN,hiN];rfl)),λ i hi=>?_⟩
         all_goals dsimp only at hi|-
         all_goals try (exfalso;omega)
         all_goals try (simp(disch:=omega) only[go_sem,simprocAttr,hRN,hiN,Zd8,Zeb];done)
        ·omega
    ·have:t=2:=by omega
     subst this
     try dsimp only
     refine Zao _ (ZjP _ _ _ _ ⟨Zb0 rfl,Zb0 rfl,(by(repeat' first|exact fmn|refine fmc ⟨⟨yA rfl,yA rfl,by dsimp only;omega⟩,?_⟩);done)⟩ rfl [2,19] rfl rfl rfl rfl) ?_;refine kw1 kO kc0 kc0 ?_;refine ZbF (o:=19) rfl rfl (by simp) ?_;rw[uD (by simp),sqM,gR];rfl
open Go.Bd (sm Zaq Part)
theorem ZBo (a:Lv)(h:Zar a=true):Zaa Tryz.prog 167 [lvD a] (lvD a):=by
 obtain⟨s1,s2,s3⟩:=Zia h;obtain⟨t1,t2⟩:=ZcV h;have hca:=Znd a.2.2.1 (by omega);have hl1:∀(k:Nat) x,a.2.1[k]? =some x->Zaa Tryz.prog 214 [Zab x] (Zab x):=λ k x hx=>ZiO x (by have:=Zdq (uA hx);omega)
 have hl2:∀(k:Nat) x,a.2.2.2[k]? =some x->Zaa Tryz.prog 214 [Zab x] (Zab x):=λ k x hx=>ZiO x (by have:=s3 x (uA hx);omega)
 obtain⟨n,ls,ar,cs⟩:=a;dsimp only at*;refine kE Tryz.func167 ?_;intro hat B X w0;refine kw1 kO kc0 (kc1 hca) ?_;refine Zao _ (Zch 3 1 901 1 rfl rfl rfl) ?_;refine Zaf (λ(k:Nat)=>k<=ls.length) (λ k=>[(1, .ptr 1 0 0 0),(2, .ptr 2 0 0 0),(3, .ptr 3 0 0 0),(15, .d (Zae ls)),(16, .int ls.length),(17, .int k)]) (λ k=>[(1, .cells [.int n, .d (Zae ls), .d (Zaj ar), .d (Zae cs)]),(2, .cells [.int 0, .nilS, .nilS, .nilS]),(3, .cells [.int n, .ref 901 1 0 k k, .d (Zaj ar), .nilS]),(901, .row 1 ((ls.take k).map Zab))]) (λ k=>ls.length-k) 0 ?_ ?_ ?_
 ·exact uH _
 ·exact kN (kc2 @yX.{0} @yH.{0,0}) []
 ·intro k hk;have hlk:(ls.take k).length=k:=by rw[yJ];omega
  have htk:((ls.take k).map Zab).take k=(ls.take k).map Zab:=uD (by rw[uC,hlk];exact uJ _);rcases uE k ls.length with hlt|hge
  ·obtain⟨x,hx⟩:=Zac hlt;have hc1:=hl1 k x hx;have e1:=ZaA hx
   repeat' first|refine ZbQ rfl ?_|refine Za7 ?_|refine wR ?_|(refine rc (hc1) rfl ?_ ?_;(· first|rfl|simp(disch:=omega) only[go_sem,simprocAttr,hx,hlk,htk,roomy]))|(refine ZbY rfl rfl (λ hc=>?_) (λ hc=>?_)<;>try simp only[hcL]at hc)|(refine ZbW _ rfl rfl (λ hc=>?_) (λ hc=>?_)<;>(try simp only[hcL]at hc)<;>try omega)|simp(disch:=omega) only[go_sem,simprocAttr,hx,hlk,htk,roomy]|exact λ d hd=>by rw[uS.1 hd];rfl|apply And.intro|omega|decide+kernel
   refine⟨k+1,?_,kN (kc5 e1 htk @uQ.{0,0} @uT.{0,0} @yH.{0,0}) [(901,26)],?_⟩
   ·omega
   ·omega
  ·have:k=ls.length:=by omega
   subst this
   try dsimp only
   rw[yE];refine kw1 kO kc0 kc0 ?_;refine Zao _ (Zch 3 3 902 1 rfl rfl rfl) ?_;refine Zaf (λ(k:Nat)=>k<=cs.length) (λ k=>[(2, .ptr 2 0 0 0),(3, .ptr 3 0 0 0),(30, .d (Zae cs)),(31, .int cs.length),(32, .int k)]) (λ k=>[(2, .cells [.int 0, .nilS, .nilS, .nilS]),(3, .cells [.int n, .ref 901 1 0 ls.length ls.length, .d (Zaj ar), .ref 902 1 0 k k]),(901, .row 1 (ls.map Zab)),(902, .row 1 ((cs.take k).map Zab))]) (λ k=>cs.length-k) 0 ?_ ?_ ?_
   ·exact uH _
   ·exact kN (kc2 @yX.{0} @yH.{0,0}) []
   ·intro k hk;have hlk:(cs.take k).length=k:=by rw[yJ];omega
    have htk:((cs.take k).map Zab).take k=(cs.take k).map Zab:=uD (by rw[uC,hlk];exact uJ _);rcases uE k cs.length with hlt|hge
    ·obtain⟨x,hx⟩:=Zac hlt;have hc1:=hl2 k x hx;have e1:=ZaA hx
     repeat' first|refine ZbQ rfl ?_|refine Za7 ?_|refine wR ?_|(refine rc (hc1) rfl ?_ ?_;(· first|rfl|simp(disch:=omega) only[go_sem,simprocAttr,hx,hlk,htk,roomy]))|(refine ZbY rfl rfl (λ hc=>?_) (λ hc=>?_)<;>try simp only[hcL]at hc)|(refine ZbW _ rfl rfl (λ hc=>?_) (λ hc=>?_)<;>(try simp only[hcL]at hc)<;>try omega)|simp(disch:=omega) only[go_sem,simprocAttr,hx,hlk,htk,roomy]|exact λ d hd=>by rw[uS.1 hd];rfl|apply And.intro|omega|decide+kernel
     refine⟨k+1,?_,kN (kc5 e1 htk @uQ.{0,0} @uT.{0,0} @yH.{0,0}) [(902,41)],?_⟩
     ·omega
     ·omega
    ·have:k=cs.length:=by omega
     subst this
     try dsimp only
     rw[yE];refine kw1 kO kc0 kc0 ?_;refine⟨_,_,_,_,rfl,?_⟩;simp(disch:=omega) only[go_sem,simprocAttr,toD,uC,uJ,qR];rw[Zal,Zal]
def Zee (m:List (List Int))(A b:Nat):Int:=sm (λ j=>if A<j then Zak m A j else 0) b
def Zhf (m:List (List Int))(A:Nat):Int:=sm (λ A=>Zee m A m.length) A
theorem Zs1 {m:List (List Int)}(hs:Sq m)(A b:Nat):0<=Zee m A b/\Zee m A b<=1000000*b:=Go.Bd.sm_bounds b λ k _=>by
 have:=ZqE hs A k;split<;>omega
theorem ZAQ {m:List (List Int)}(hs:Sq m)(h8:m.length<=8)(A:Nat):0<=Zhf m A/\Zhf m A<=8000000*A:=
 Go.Bd.sm_bounds A λ k _=>by
  have:=Zs1 hs k m.length;omega
theorem Zs2 (m:List (List Int))(A:Nat):∀n,A<n->Zee m A n=sm (λ j=>Zak m A (A+1+j)) (n-1-A)
 |0,h=>by omega
 |n+1,h=>by
  have e:Zee m A (n+1)=Zee m A n+(if A<n then Zak m A n else 0):=rfl;rw[e];by_cases c:A<n
  ·rw[Zs2 m A n c,if_pos c,show n+1-1-A=(n-1-A)+1 by omega];have e2:sm (λ j=>Zak m A (A+1+j)) (n-1-A+1)=sm (λ j=>Zak m A (A+1+j)) (n-1-A)+Zak m A (A+1+(n-1-A)):=rfl;rw[e2,show A+1+(n-1-A)=n by omega]
  ·have:n=A:=by omega
   subst this;have z:∀k,k<=n->Zee m n k=0:=by
    intro k
    induction k with
    |zero=>intro _;rfl
    |succ k ih=>
     intro hk;have e3:Zee m n (k+1)=Zee m n k+(if n<k then Zak m n k else 0):=rfl;rw[e3,ih (by omega),if_neg (by omega)];rfl
   rw[z n (uJ _),if_neg c,show n+1-1-n=0 by omega];rfl
theorem sm_congr {f g:Nat->Int}:∀n,(∀k,k<n->f k=g k)->sm f n=sm g n
 |0,_=>rfl
 |n+1,h=>by
  have e:∀f:Nat->Int,sm f (n+1)=sm f n+f n:=λ _=>rfl
  rw[e,e,sm_congr n λ k hk=>h k (by omega),h n (by omega)]
theorem ZAR (m:List (List Int)):Zhf m m.length=Zaq (Zak m) (List.range m.length):=by
 rw[Go.Bd.sumC_range,Zhf];exact sm_congr _ λ A hA=>Zs2 m A _ hA
theorem ZBh (l:List Int)(hl:l.length<=1000000):Zaa Tryz.prog 52 [Zab l] (.bool (decide (l.length<=8))):=by
 refine kE Tryz.func52 ?_;intro hat B X w0;refine kw1 kO kc0 kc0 ?_;exact Zah (by rw[qV];simp only[uF];omega)
theorem ZwW (a:Lv)(i:Nat)(hw:wide a)(hv:Zar a=true)(har:a.2.2.1.length<=700)(hil:i<a.2.1.length):
  Zaa Tryz.prog 53 [lvD a, .int i] (.tup [Zbe (ZcG a i).1, .bool (ZcG a i).2]):=by
 obtain⟨y,hy⟩:=Zac hil;have hyl:=Zdq (uA hy);obtain⟨t1,t2⟩:=ZcV hv;have h1:=ZBh y (by omega);rw[ZcG,ZdV hy];by_cases h8:8<y.length
 ·rw[if_pos h8];rw[uV (by omega)]at h1;obtain⟨n,ls,ar,cs⟩:=a;dsimp only at*;refine kE Tryz.func53 ?_;intro hat B X w0;refine kw1 kO (kc1 hy) (kc1 h1) ?_;exact⟨_,rfl,Zcm rfl,Zah rfl,trivial⟩
 ·rw[if_neg h8];rw[yD (by omega)]at h1;have h2:=ZAY a i hw hv hil;have hmok:=ZA5 (i:=i) har (by rw[ZdV hy];exact h8);have h3:=ZpH (orM a i);rw[if_pos hmok]at h3;obtain⟨hs,hm8⟩:=Zom hmok;have hml:=Zta a i;rw[ZdV hy]at hml;have hns:=ZAR (orM a i);have hbb:0<=(Zc3 (orM a i)).2/\(Zc3 (orM a i)).2<=64000000:=by
   obtain⟨g1,g2,_⟩:=Go.Bd.best_bounds hs.small hm8 (Zkp _) (ZmX (orM a i));exact⟨g1,g2⟩
  rw[ZhS,ZdV hy,<-hml,<-hns];have hni:=Zs1 hs;have hnt:=ZAQ hs hm8;have hIs:∀A b,Zee (orM a i) A (b+1)=Zee (orM a i) A b+(if A<b then Zak (orM a i) A b else 0):=λ _ _=>rfl
  have hTs:∀A,Zhf (orM a i) (A+1)=Zhf (orM a i) A+Zee (orM a i) A (orM a i).length:=λ _=>rfl
  have hI0:∀A,Zee (orM a i) A 0=0:=λ _=>rfl
  have hT0:Zhf (orM a i) 0=0:=rfl;generalize orM a i=m at*;generalize Zee m=I at*;generalize Zhf m=T at*;generalize Zc3 m=BB at*;obtain⟨p,cost⟩:=BB;obtain⟨n,ls,ar,cs⟩:=a;dsimp only at*;refine kE Tryz.func53 ?_;intro hat B X w0;refine kw1 kO (kc1 hy) (kc2 h1 h2) ?_;refine Zaf (λ(u:Nat)=>u<=m.length) (λ u=>[(6, .d (Zae m)),(7, .int (T u)),(24, .int m.length),(25, .int u)]) (λ u=>[]) (λ u=>m.length-u) 0 ?_ ?_ ?_
  ·exact uH _
  ·exact kN (kc1 hT0) []
  ·intro u hu;have b1:=hnt u;rcases uE u m.length with hlt|hge
   ·have e1:=hTs u;refine kw1 kO kc0 kc0 ?_;refine Zaf (λ(b:Nat)=>b<=m.length) (λ b=>[(6, .d (Zae m)),(7, .int (T u+I u b)),(8, .int u),(24, .int m.length),(25, .int u),(29, .int m.length),(30, .int b)]) (λ b=>[]) (λ b=>m.length-b) 0 ?_ ?_ ?_
    ·exact uH _
    ·exact kN (kc2 hI0 @jW) []
    ·intro b hb;have b2:=hni u b;rcases uE b m.length with hlb|hgb
     ·obtain⟨q,hq,hql,hqv,g1,g2⟩:=hs.get hlt hlb;have e2:=hIs u b;by_cases c:u<b
      ·rw[if_pos c]at e2;refine kw1 kO (kc4 hq hqv hql c) kc0 ?_;refine⟨b+1,?_,kN (kc2 e2 @zJ) [],?_⟩
       ·omega
       ·omega
      ·rw[if_neg c,jW]at e2;refine kw1 kO (kc1 c) kc0 ?_;refine⟨b+1,?_,kN (kc1 e2) [],?_⟩
       ·omega
       ·omega
     ·have:b=m.length:=by omega
      subst this;refine kw1 kO kc0 kc0 ?_;refine⟨u+1,?_,kN (kc1 e1) [],?_⟩
      ·omega
      ·omega
   ·have:u=m.length:=by omega
    subst this;refine kw1 kO kc0 (kc1 h3) ?_;refine⟨_,rfl,Zcm rfl,Zah ?_,trivial⟩;rw[qV]
theorem ZwD (a:Lv)(i:Nat)(o:List Nat)(hw:wide a)(hv:Zar a=true)(hil:i<a.2.1.length)(ho:Part (Zaw a.2.1 i).length 0 o):
  Zaa Tryz.prog 168 [lvD a, .int i,Zbe o] (lvD (Zcc a i (ZaO (Zaw a.2.1 i) o))):=by
 obtain⟨y,hy⟩:=Zac hil;have hyl:=Zdq (uA hy);obtain⟨t1,t2⟩:=ZcV hv;rw[ZdV hy]at ho|-;have hol:=ho.len;have hr:=ZpO a i (ZaO y o) hw (by rw[ZoC];omega);rw[ZCH hv hy ho]at hr;generalize Zcc a i (ZaO y o)=P at*;obtain⟨n',ls',ar',cs'⟩:=P;obtain⟨n,ls,ar,cs⟩:=a;dsimp only at*;refine kE Tryz.func168 ?_;intro hat B X w0;refine kw1 kO kc0 kc0 ?_;refine Zao _ (Zcy 7 901 1 rfl rfl) ?_;refine Zaf (λ(k:Nat)=>k<=o.length) (λ k=>[(1, .int i),(3, .ptr 3 0 0 0),(6, .ptr 6 0 0 0),(7, .ref 901 1 0 k k),(12, .d (Zbe o)),(13, .int o.length),(14, .int k)]) (λ k=>[(3, .cells [.int n, .d (Zae ls), .d (Zaj ar), .d (Zae cs)]),(6, .cells [.int 0, .nilS, .nilS, .nilS]),(901, .row 1 (((ZaO y o).take k).map D.int))]) (λ k=>o.length-k) 0 ?_ ?_ ?_
 ·exact uH _
 ·exact kN (kc2 @yX.{0} @yH.{0,0}) []
 ·intro k hk;have hlk:((ZaO y o).take k).length=k:=by rw[yJ,ZoC];omega
  have htk:(((ZaO y o).take k).map D.int).take k=((ZaO y o).take k).map D.int:=uD (by rw[uC,hlk];exact uJ _);rcases uE k o.length with hlt|hge
  ·obtain⟨q,hq⟩:=Zac hlt;have hqn:=ho.lt q (uA hq);have hyq:y[q]? =some (yG y q):=by rw[yG,uR hqn];rfl
   have e1:(ZaO y o).take (k+1)=(ZaO y o).take k++[yG y q]:=ZaA (by rw[ZaO,uI,hq];rfl);generalize(ZaO y o).take k=R at*;refine kw1 kO (kc5 hy hq hyq hlk htk) kc0 ?_;refine⟨k+1,?_,kN (kc5 e1 htk @uQ.{0,0} @uT.{0,0} @yH.{0,0}) [(901,28)],?_⟩
   ·omega
   ·omega
  ·have:k=o.length:=by omega
   subst this;have hfull:(ZaO y o).take o.length=ZaO y o:=uD (by rw[ZoC];exact uJ _);rw[hfull]at hlk htk;rw[hfull];refine Zao _ (Zc5 901 1 ((ZaO y o).map D.int) rfl (ZcW _ rfl) (by decide)) ?_;refine kw1 kO (kc3 hlk htk @qR.{0}) (kc1 hr) ?_;refine⟨_,_,_,_,rfl,?_⟩;simp(disch:=omega) only[go_sem,simprocAttr,toD]
theorem Zv5 (a:Lv)(hw:wide a)(har:a.2.2.1.length<=700):Zaa Tryz.prog 104 [lvD a] (lvD (if Zar a then Zcl a else lv0)):=by
 have h1:=Zgh a hw;rcases hv:Zar a with _|_<;>rw[hv]at h1
 ·rw[if_neg (by decide)];refine kE Tryz.func104 ?_;intro hat B X w0;refine kw1 kO kc0 (kc1 h1) ?_;refine⟨_,_,_,_,rfl,?_⟩;simp(disch:=omega) only[go_sem,simprocAttr,toD];rfl
 ·rw[if_pos rfl];obtain⟨t1,t2⟩:=ZcV hv;have h2:=ZBo a hv;have hK0:=Kin.refl hv hw;have h3:∀(b:Lv) (i:Nat),Kin a b->i<a.2.1.length->Zaa Tryz.prog 53 [lvD b, .int i] (.tup [Zbe (ZcG b i).1, .bool (ZcG b i).2]):=λ b i h hi=>ZwW b i h.wd h.ok (by rw[h.arcs];exact har) (by rw[h.len];exact hi)
  have h4:∀(b:Lv) (i:Nat),Kin a b->i<a.2.1.length->(ZcG b i).2=true->Zaa Tryz.prog 168 [lvD b, .int i,Zbe (ZcG b i).1] (lvD (Zfr b i)):=λ b i h hi hb=>by
   have hy:=ZmZ hb;have e:(ZcG b i).1=(Zc3 (orM b i)).1:=by rw[ZcG,if_neg hy.1]
   rw[e];exact ZwD b i _ h.wd h.ok (by rw[h.len];exact hi) (Zor b i)
  obtain⟨M,hM⟩:∃M,M=Zek a 0:=⟨_,rfl⟩;rw[Zcl,<-hM];generalize hR:ZbL M a 0=R;obtain⟨L,hL⟩:∃L,L=a.2.1.length:=⟨_,rfl⟩;rw[<-hL]at h3 h4 t1;refine kE Tryz.func104 ?_;intro hat B X w0;refine kw1 kO kc0 (kc2 h1 h2) ?_;refine Zaf (λ(q:Nat×Lv×Nat)=>match q with|(f,b,i)=>Kin a b/\Zek b i<=f/\i<=L/\ZbL f b i=R) (λ(f,b,i)=>[(1, .ptr 1 0 0 0),(2, .ptr 2 0 0 0),(3, .int i)]) (λ(f,b,i)=>[(1, .cells [.int b.1, .d (Zae b.2.1), .d (Zaj b.2.2.1), .d (Zae b.2.2.2)]),(2, .cells [.int 0, .nilS, .nilS, .nilS])]) (λ(f,b,i)=>f) (M,a,0) ?_ ?_ ?_
  ·exact⟨hK0,Nat.le_of_eq hM.symm,uH _,hR⟩
  ·exact kN kc0 []
  ·rintro⟨f,b,i⟩ ⟨hK,hms,hi,hres⟩;dsimp only at hK hms hi hres|-;have hbl:b.2.1.length=L:=by rw[hK.len,hL]
   rcases uE i L with hlt|hge
   ·have hf:0<f:=by
     have:Zek b i=(Zbc b).toNat*(b.2.1.length+1)+(b.2.1.length-i):=rfl;omega
    obtain⟨f,rfl⟩:∃g,f=g+1:=⟨f-1,by omega⟩;rw[ZbL,if_pos (by omega)]at hres;have c1:=h3 b i hK hlt;rcases hb:(ZcG b i).2 with _|_
    ·rw[hb]at c1;rw[hb,if_neg (by decide)]at hres;have hs:=ZsT (b:=b) (i:=i) (by omega);clear h3 h4;obtain⟨n,ls,ar,cs⟩:=b;dsimp only at hbl hb c1|-;refine kw1 kO (kc1 hbl) (kc1 c1) ?_;refine⟨(f,(n,ls,ar,cs),i+1),?_,kN (kc2 @qQ @gV) [],?_⟩
     ·exact⟨hK,by dsimp only;omega,hlt,hres⟩
     ·exact Nat.lt_succ_self _
    ·have c2:=h4 b i hK hlt hb;rw[hb]at c1;rw[hb,if_pos rfl]at hres;have hs:=ZsS hK (by omega) (ZmZ hb).2;have hK2:=Zm0 hK (i:=i) (by omega);clear h3 h4;generalize Zfr b i=P at*;obtain⟨n,ls,ar,cs⟩:=b;dsimp only at hbl hb c1 c2|-;refine kw1 kO (kc1 hbl) (kc2 c1 c2) ?_;refine⟨(f,P,0),?_,kN kc0 [],?_⟩
     ·exact⟨hK2,by dsimp only;omega,uH _,hres⟩
     ·exact Nat.lt_succ_self _
   ·rw[Zt4 (by omega)]at hres;subst hres;obtain⟨n,ls,ar,cs⟩:=b;dsimp only at hbl|-;refine kw1 kO (kc1 hbl) kc0 ?_;refine⟨_,_,_,_,rfl,?_⟩;simp(disch:=omega) only[go_sem,simprocAttr,toD]
def Zhh (a:Lv)(r:Int):Lv×Int×Int:=
 if Zar a=true/\0<=r/\r<=100 then(Zcl (Zbx a r.toNat),Zbc (Zcl (Zbx a r.toNat)),0)else(lv0,0,1)
theorem ZAS (a:Lv)(r:Int)(hw:wide a)(har:a.2.2.1.length<=700):Zaa Tryz.prog 50 [lvD a, .int r] (.tup [lvD (Zhh a r).1, .int (Zhh a r).2.1, .int (Zhh a r).2.2]):=by
 have h1:=Zgh a hw;rw[Zhh];by_cases hall:Zar a=true/\0<=r/\r<=100
 ·rw[if_pos hall];obtain⟨hv,hr0,hr1⟩:=hall;rw[hv]at h1;obtain⟨t1,t2⟩:=ZcV hv;have hb:=ZwJ a r hw har;have hrr:ZgG r=r.toNat:=by rw[ZgG];omega
  rw[Zle,if_pos hv,hrr]at hb;have hK:=Zm6 hv hw r.toNat;have h3:=Zv5 (Zbx a r.toNat) hK.wd (by rw[hK.arcs];exact har);rw[if_pos hK.ok]at h3;have hK2:=(ZCu hK.ok hK.wd).1;have h4:=ZpP (Zcl (Zbx a r.toNat)) hK2.wd (by rw[hK2.len,hK.len];omega);dsimp only at hb|-;generalize Zcl (Zbx a r.toNat)=Q at*;generalize Zbx a r.toNat=P at*;generalize Zbc P=tp at*;generalize Zbc Q=tq at*;clear hK hK2;obtain⟨n1,ls1,ar1,cs1⟩:=Q;obtain⟨n2,ls2,ar2,cs2⟩:=P;refine kE Tryz.func50 ?_;intro hat B X w0;refine kw1 kO kc0 (kc4 h1 hb h3 h4) ?_;refine⟨_,rfl,⟨_,_,_,_,rfl,?_⟩,Zai rfl,Zai rfl,trivial⟩;simp(disch:=omega) only[go_sem,simprocAttr,toD]
 ·rw[if_neg hall];rcases hv:Zar a with _|_<;>rw[hv]at h1
  ·refine kE Tryz.func50 ?_;intro hat B X w0;refine kw1 kO kc0 (kc1 h1) ?_;refine⟨_,rfl,⟨_,_,_,_,rfl,?_⟩,Zai rfl,Zai rfl,trivial⟩;simp(disch:=omega) only[go_sem,simprocAttr,toD];rfl
  ·have hn:¬(0<=r/\r<=100):=λ h=>hall ⟨hv,h⟩
   refine kE Tryz.func50 ?_;intro hat B X w0;refine kw kO kc0 (kc1 h1) ?_
   repeat' first|exact True.intro|refine Bn.mk ?_ ?_|intro hc
   all_goals
    refine⟨_,rfl,⟨_,_,_,_,rfl,?_⟩,Zai rfl,Zai rfl,trivial⟩;simp(disch:=omega) only[go_sem,simprocAttr,toD];rfl
end Go.Proofs.YtjjbhjnpeenbkaaGreatDoor
namespace Go.Proofs.YtjjbhjnpeenbkaaGreatDoor
open Go Go.PS Go.Proofs
set_option maxRecDepth 100000
attribute [local irreducible] Zad wpG Zaa Zag
open Go.Bd (sm Zaq Part)
end Go.Proofs.YtjjbhjnpeenbkaaGreatDoor
namespace Go.Proofs.YtjjbhjnpeenbkaaGreatDoor
open Go Go.PS Go.Proofs
set_option maxRecDepth 100000
attribute [local irreducible] Zad wpG Zaa Zag
open Go.Bd (sm Zaq Part)
theorem ZCt {a b:Lv}(h:Kin a b):Kin a (Zcl b)/\Zbc (Zcl b)<=Zbc b/\∀j,j<a.2.1.length->(ZcG (Zcl b) j).2=false:=
 Zl6 _ b 0 h (uJ _) (uH _) (λ j hlj=>absurd hlj (zS j))
end Go.Proofs.YtjjbhjnpeenbkaaGreatDoor
