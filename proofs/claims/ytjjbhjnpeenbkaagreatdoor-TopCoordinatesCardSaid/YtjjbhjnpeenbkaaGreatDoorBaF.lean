/- Barycenters: layers, sweeps, rounds, by the program and by the reference. -/
import Derived.Test.YtjjbhjnpeenbkaaGreatDoorBaS4
import Derived.Test.YtjjbhjnpeenbkaaGreatDoorStE
import Derived.Test.YtjjbhjnpeenbkaaGreatDoorD
import Derived.Test.YtjjbhjnpeenbkaaGreatDoorTypes
set_option linter.unusedSimpArgs false
set_option linter.unusedVariables false
set_option maxHeartbeats 16000000
namespace Go.Proofs.YtjjbhjnpeenbkaaGreatDoor
open Go Go.PS Go.Proofs
open Go.Stb
set_option maxRecDepth 100000
attribute [local irreducible] Zac wpG Zaa Zag
theorem ZxE (a:Lv)(h:Zaq a=true):Zaa Tryz.prog 165 [lvD a] (lvD a):=by
 obtain⟨s1,s2,s3⟩:=Zix h;obtain⟨t1,t2⟩:=Zc7 h;have hca:=Zng a.2.2.1 (by omega);have hl1:∀(k:Nat) x,a.2.1[k]? =some x->Zaa Tryz.prog 214 [Zab x] (Zab x):=λ k x hx=>ZiJ x (by have:=ZcU (uA hx);omega)
 have hl2:∀(k:Nat) x,a.2.2.2[k]? =some x->Zaa Tryz.prog 214 [Zab x] (Zab x):=λ k x hx=>ZiJ x (by have:=s3 x (uA hx);omega)
 obtain⟨n,ls,ar,cs⟩:=a;dsimp only at*;refine kE Tryz.func165 ?_;intro hat B X w0;refine kw1 kO kc0 (kc1 hca) ?_;refine Zas _ (Zcy 3 1 901 1 rfl rfl rfl) ?_;refine Zaf (λ(k:Nat)=>k<=ls.length) (λ k=>[(1, .ptr 1 0 0 0),(2, .ptr 2 0 0 0),(3, .ptr 3 0 0 0),(15, .d (Zae ls)),(16, .int ls.length),(17, .int k)]) (λ k=>[(1, .cells [.int n, .d (Zae ls), .d (Zak ar), .d (Zae cs)]),(2, .cells [.int 0, .nilS, .nilS, .nilS]),(3, .cells [.int n, .ref 901 1 0 k k, .d (Zak ar), .nilS]),(901, .row 1 ((ls.take k).map Zab))]) (λ k=>ls.length-k) 0 ?_ ?_ ?_
 ·exact uI _
 ·exact kN (kc2 @qC.{0} @yS.{0,0}) []
 ·intro k hk;have hlk:(ls.take k).length=k:=by rw[uS];omega
  have htk:((ls.take k).map Zab).take k=(ls.take k).map Zab:=uG (by rw[uD,hlk];exact uH _);rcases uF k ls.length with hlt|hge
  ·obtain⟨x,hx⟩:=Zad hlt;have hc1:=hl1 k x hx;have e1:=ZaB hx
   repeat' first|refine Zbt rfl ?_|refine ZaX ?_|refine wR ?_|(refine rc (hc1) rfl ?_ ?_;(· first|rfl|simp(disch:=omega) only[go_sem,simprocAttr,hx,hlk,htk,roomy]))|(refine Zbv rfl rfl (λ hc=>?_) (λ hc=>?_)<;>try simp only[hcL]at hc)|(refine Zbx _ rfl rfl (λ hc=>?_) (λ hc=>?_)<;>(try simp only[hcL]at hc)<;>try omega)|simp(disch:=omega) only[go_sem,simprocAttr,hx,hlk,htk,roomy]|exact λ d hd=>by rw[uR.1 hd];rfl|apply And.intro|omega|decide+kernel
   refine⟨k+1,?_,kN (kc5 e1 htk @uU.{0,0} @uV.{0,0} @yS.{0,0}) [(901,26)],?_⟩
   ·omega
   ·omega
  ·have:k=ls.length:=by omega
   subst this
   try dsimp only
   rw[yF];refine kw1 kO kc0 kc0 ?_;refine Zas _ (Zcy 3 3 902 1 rfl rfl rfl) ?_;refine Zaf (λ(k:Nat)=>k<=cs.length) (λ k=>[(2, .ptr 2 0 0 0),(3, .ptr 3 0 0 0),(30, .d (Zae cs)),(31, .int cs.length),(32, .int k)]) (λ k=>[(2, .cells [.int 0, .nilS, .nilS, .nilS]),(3, .cells [.int n, .ref 901 1 0 ls.length ls.length, .d (Zak ar), .ref 902 1 0 k k]),(901, .row 1 (ls.map Zab)),(902, .row 1 ((cs.take k).map Zab))]) (λ k=>cs.length-k) 0 ?_ ?_ ?_
   ·exact uI _
   ·exact kN (kc2 @qC.{0} @yS.{0,0}) []
   ·intro k hk;have hlk:(cs.take k).length=k:=by rw[uS];omega
    have htk:((cs.take k).map Zab).take k=(cs.take k).map Zab:=uG (by rw[uD,hlk];exact uH _);rcases uF k cs.length with hlt|hge
    ·obtain⟨x,hx⟩:=Zad hlt;have hc1:=hl2 k x hx;have e1:=ZaB hx
     repeat' first|refine Zbt rfl ?_|refine ZaX ?_|refine wR ?_|(refine rc (hc1) rfl ?_ ?_;(· first|rfl|simp(disch:=omega) only[go_sem,simprocAttr,hx,hlk,htk,roomy]))|(refine Zbv rfl rfl (λ hc=>?_) (λ hc=>?_)<;>try simp only[hcL]at hc)|(refine Zbx _ rfl rfl (λ hc=>?_) (λ hc=>?_)<;>(try simp only[hcL]at hc)<;>try omega)|simp(disch:=omega) only[go_sem,simprocAttr,hx,hlk,htk,roomy]|exact λ d hd=>by rw[uR.1 hd];rfl|apply And.intro|omega|decide+kernel
     refine⟨k+1,?_,kN (kc5 e1 htk @uU.{0,0} @uV.{0,0} @yS.{0,0}) [(902,41)],?_⟩
     ·omega
     ·omega
    ·have:k=cs.length:=by omega
     subst this
     try dsimp only
     rw[yF];refine kw1 kO kc0 kc0 ?_;refine⟨_,_,_,_,rfl,?_⟩;simp(disch:=omega) only[go_sem,simprocAttr,toD,uD,uH,qU];rw[Zat,Zat]
theorem Zzg (a:Lv)(hw:wide a)(hv:Zaq a=true)(har:a.2.2.1.length<=700):Zaa Tryz.prog 166 [lvD a] (lvD (swB a)):=by
 obtain⟨t1,t2⟩:=Zc7 hv;have hkd:=ZmF (Kin.refl hv hw);have hku:=λ k hk=>Zmw (hkd (a.2.1.length-1) (uH _)) k hk
 have h1:∀k,k+1<a.2.1.length->Zaa Tryz.prog 215 [lvD (Zdz a k), .int (k+1:Nat), .int k] (lvD (Zdz a (k+1))):=λ k hk=>by
  have hK:=hkd k (by omega);exact ZoT (Zdz a k) (k+1) k hK.wd hK.ok (by rw[hK.arcs];exact har) (by rw[hK.len];omega) (by rw[hK.len];omega)
 have h2:∀k,k+1<a.2.1.length->Zaa Tryz.prog 215 [lvD (upB (Zdz a (a.2.1.length-1)) a.2.1.length k), .int (a.2.1.length-2-k:Nat), .int (a.2.1.length-1-k:Nat)] (lvD (upB (Zdz a (a.2.1.length-1)) a.2.1.length (k+1))):=λ k hk=>by
  have hK:=hku k (by omega);exact ZoT _ (a.2.1.length-2-k) (a.2.1.length-1-k) hK.wd hK.ok (by rw[hK.arcs];exact har) (by rw[hK.len];omega) (by rw[hK.len];omega)
 have hl1:∀k,k<=a.2.1.length-1->(Zdz a k).2.1.length=a.2.1.length:=λ k hk=>(hkd k hk).len
 rw[swB];have hd0:Zdz a 0=a:=rfl;have hu0:upB (Zdz a (a.2.1.length-1)) a.2.1.length 0=Zdz a (a.2.1.length-1):=rfl;clear hkd hku;obtain⟨N,hN⟩:∃N,N=a.2.1.length:=⟨_,rfl⟩;rw[<-hN]at h1 h2 hl1 hu0 t1|-;generalize upB (Zdz a (N-1)) N=U at*;generalize Zdz a=W at*;rw[<-hd0]at hN;rw[show a=W 0 from hd0.symm];clear hd0;refine kE Tryz.func166 ?_;intro hat B X w0;refine kw1 kO kc0 kc0 ?_;refine Zaf (λ(k:Nat)=>k<=N-1) (λ k=>[(1, .ptr 1 0 0 0),(2, .ptr 2 0 0 0),(3, .int (k+1:Nat))]) (λ k=>[(1, .cells [.int (W k).1, .d (Zae (W k).2.1), .d (Zak (W k).2.2.1), .d (Zae (W k).2.2.2)]),(2, .cells [.int 0, .nilS, .nilS, .nilS])]) (λ k=>N-k) 0 ?_ ?_ ?_
 ·exact uI _
 ·exact kN (kc2 @qQ @gQ) []
 ·intro k hk;have hl:=hl1 k hk;have e1:((k+1:Nat):Int)-1=(k:Int):=by omega
  have e2:((k+1:Nat):Int)+1=((k+1+1:Nat):Int):=by omega
  rcases uF (k+1) N with hlt|hge
  ·have c1:=h1 k hlt;refine kw1 kO (kc3 hl e1 e2) (kc1 c1) ?_;refine⟨k+1,?_,kN kc0 [],?_⟩
   ·omega
   ·omega
  ·have:k=N-1:=by omega
   subst this;rw[<-hu0]at hl|-;clear hu0 h1;refine kw1 kO (kc1 hl) kc0 ?_;refine Zaf (λ(k:Nat)=>k<=N-1) (λ k=>[(1, .ptr 1 0 0 0),(2, .ptr 2 0 0 0),(4, .int ((N:Int)-2-k))]) (λ k=>[(1, .cells [.int (U k).1, .d (Zae (U k).2.1), .d (Zak (U k).2.2.1), .d (Zae (U k).2.2.2)]),(2, .cells [.int 0, .nilS, .nilS, .nilS])]) (λ k=>N-k) 0 ?_ ?_ ?_
   ·exact uI _
   ·exact kN (kc2 @Int.natCast_zero @Int.sub_zero) []
   ·intro k hk;rcases uF (k+1) N with hlt|hge
    ·have c1:=h2 k hlt;have e3:(N:Int)-2-k=((N-2-k:Nat):Int):=by omega
     have e4:((N-2-k:Nat):Int)+1=((N-1-k:Nat):Int):=by omega
     have e5:((N-2-k:Nat):Int)-1=(N:Int)-2-((k+1:Nat):Int):=by omega
     rw[e3];refine kw1 kO (kc2 e4 e5) (kc1 c1) ?_;refine⟨k+1,?_,kN kc0 [],?_⟩
     ·omega
     ·omega
    ·have:k=N-1:=by omega
     subst this;refine kw1 kO kc0 kc0 ?_;refine⟨_,_,_,_,rfl,?_⟩;simp(disch:=omega) only[go_sem,simprocAttr,toD]
theorem Zzs (r:Int):(if(100:Int)<(if r<0 then 0 else r)then(100:Int)else(if r<0 then 0 else r))=(ZfY r:Int):=by
 rw[ZfY];split<;>split<;>omega
theorem ZxB (a:Lv)(r:Int)(hw:wide a)(har:a.2.2.1.length<=700):Zaa Tryz.prog 103 [lvD a, .int r] (.tup [lvD (Zln a r).1, .int (Zln a r).2]):=by
 have h1:=Zhd a hw;rw[Zln];rcases hv:Zaq a with _|_<;>rw[hv]at h1
 ·rw[if_neg (by decide)];refine kE Tryz.func103 ?_;intro hat B X w0;refine kw1 kO kc0 (kc1 h1) ?_;refine⟨_,rfl,⟨_,_,_,_,rfl,?_⟩,Zah rfl,trivial⟩;simp(disch:=omega) only[go_sem,simprocAttr,toD];rfl
 ·rw[if_pos rfl];obtain⟨t1,t2⟩:=Zc7 hv;have h2:=ZxE a hv;have hk:=ZlQ hv hw;have h3:∀k,Zaa Tryz.prog 166 [lvD (Zdf a k)] (lvD (Zdf a (k+1))):=λ k=>Zzg _ (hk k).wd (hk k).ok (by rw[(hk k).arcs];exact har)
  have h4:∀k,Zaa Tryz.prog 105 [lvD (Zdf a k)] (.int (Za7 (Zdf a k))):=λ k=>Zs8 _ (hk k).wd (by rw[(hk k).len];omega)
  have hbs:∀k,ZbH a (k+1)=if Za7 (Zdf a (k+1))<Za7 (ZbH a k)then Zdf a (k+1)else ZbH a k:=λ _=>rfl
  have hb0:ZbH a 0=Zdf a 0:=rfl;have hn0:Zdf a 0=a:=rfl;have hre:=Zzs r;have hr100:ZfY r<=100:=by rw[ZfY];omega
  dsimp only;generalize ZfY r=R at*;rw[<-hn0]at h1 h2;rw[show a=Zdf a 0 from rfl];rw[show ZbH (Zdf a 0)=ZbH a from rfl];clear hk hn0;generalize Zdf a=W at*;generalize ZbH a=Bs at*;refine kE Tryz.func103 ?_;intro hat B X w0;have h40:=h4 0;refine kw1 kO (kc1 hre) (kc3 h1 h2 h40) ?_;refine Zaf (λ(k:Nat)=>k<=R) (λ k=>[(2, .ptr 2 0 0 0),(4, .ptr 4 0 0 0),(6, .ptr 6 0 0 0),(7, .int (Za7 (Bs k))),(20, .int R),(21, .int k)]) (λ k=>[(2, .cells [.int (W k).1, .d (Zae (W k).2.1), .d (Zak (W k).2.2.1), .d (Zae (W k).2.2.2)]),(4, .cells [.int 0, .nilS, .nilS, .nilS]),(6, .cells [.int (Bs k).1, .d (Zae (Bs k).2.1), .d (Zak (Bs k).2.2.1), .d (Zae (Bs k).2.2.2)])]) (λ k=>R-k) 0 ?_ ?_ ?_
  ·exact uI _
  ·exact kN (kc1 hb0) []
  ·intro k hk;rcases uF k R with hlt|hge
   ·have c1:=h3 k;have c2:=h4 (k+1);have e1:=hbs k;by_cases c:Za7 (W (k+1))<Za7 (Bs k)
    ·rw[if_pos c]at e1;refine kw1 kO (kc1 c) (kc2 c1 c2) ?_;refine⟨k+1,?_,kN (kc1 e1) [],?_⟩
     ·omega
     ·omega
    ·rw[if_neg c]at e1;refine kw1 kO (kc1 c) (kc2 c1 c2) ?_;refine⟨k+1,?_,kN (kc1 e1) [],?_⟩
     ·omega
     ·omega
   ·have:k=R:=by omega
    subst this;refine kw1 kO kc0 kc0 ?_;refine⟨_,rfl,⟨_,_,_,_,rfl,?_⟩,Zah rfl,trivial⟩;simp(disch:=omega) only[go_sem,simprocAttr,toD]
end Go.Proofs.YtjjbhjnpeenbkaaGreatDoor
namespace Go.Proofs.YtjjbhjnpeenbkaaGreatDoor
open Go Go.PS Go.Proofs
set_option maxRecDepth 100000
attribute [local irreducible] Zac wpG Zaa Zag
theorem ZtQ (a:Lv)(i:Nat)(u v:Nat):ZdW a [] (Zav a.2.1 i) 0 i 0 u v=0:=by
 rw[ZdW,ZiG];split<;>rfl
theorem Zzl (a:Lv)(i:Nat)(hw:wide a)(hv:Zaq a=true)(hil:i<a.2.1.length):
  Zaa Tryz.prog 109 [lvD a, .int i] (Zae (orM a i)):=by
 obtain⟨y,hy⟩:=Zad hil;obtain⟨t1,t2⟩:=Zc7 hv;have hyl:=ZcU (uA hy);have hacc:=Zlv a [] (Zav a.2.1 i) (w:=0) (by decide) i;have haccS:∀t u v,ZdW a [] (Zav a.2.1 i) 0 i (t+1) u v=ZdW a [] (Zav a.2.1 i) 0 i t u v+Zai (ZaR a i (ZeF i t)) u v:=λ _ _ _=>rfl
 have haccZ:=ZtQ a i;have hMsq:∀t,Sq (ZaR a i (ZeF i t)):=λ t=>Zj6 a i (ZeF i t)
 have hMlen:∀t,(ZaR a i (ZeF i t)).length=0\/(ZaR a i (ZeF i t)).length=y.length:=λ t=>by
  rw[ZaR];split
  ·right
   simp[ZcN,Zbc,Zcw,hy]
  ·left;rfl
 have hMs:∀t,Zaa Tryz.prog 177 [lvD a, .int i, .int (ZeF i t)] (Zae (ZaR a i (ZeF i t))):=λ t=>Zo2 a i (ZeF i t) hw
 rw[orM,stM];rw[Zd8 hy]at*;generalize ZdW a [] y 0 i=A at*;obtain⟨Q,hQ⟩:∃Q:Nat->List (List Int),∀t,ZaR a i (ZeF i t)=Q t:=⟨_,λ _=>rfl⟩;simp only[hQ]at*;obtain⟨N,hN⟩:∃N,N=y.length:=⟨_,rfl⟩;have hN5:N<=512:=by omega
 obtain⟨n,ls,ar,cs⟩:=a;dsimp only at*;refine kE Tryz.func109 ?_;intro hat B X w0;refine kw1 kO (kc2 hy hN.symm) kc0 ?_;refine Zas _ (ZjS 1 19 1 N rfl (λ i hi=>by simp(disch:=omega) only[go_sem,simprocAttr,ZjM,Zeg]) (by decide) (by decide)) ?_;have hiN:∀(k:Nat) (x y:List D),k<N->(if k<N then x else y)=x:=λ k x y h=>if_pos h
 have hz:∀u,List.replicate N (D.int 0)=(Za3 (A 0 u) N).map D.int:=λ u=>by
  rw[Zph];congr 1;exact ZgU λ v _=>(haccZ u v).symm
 refine Zez (λ(u:Nat)=>u<=N) (λ u=>[(1, .int i),(2, .ptr 2 0 0 0),(5, .ref 19 1 0 N N),(21, .int N),(22, .int u)]) (λ u=>[⟨1,19,1,N,λ k=>if k<u then(Za3 (A 0 k) N).map D.int else[]⟩]) (λ u=>[(2, .cells [.int n, .d (Zae ls), .d (Zak ar), .d (Zae cs)])]) (λ u=>N-u) 0 ?_ ?_ ?_
 ·exact uI _
 ·refine kF (kc1 hN.symm) [] [] ?_;exact kT0 (kc1 @zS)
 ·intro u hu;rcases uF u N with hlt|hge
  ·have hzu:=hz u;have hnu:¬u<u:=by omega
   have hrl:=ZdZ (A 0 u) N;have hsu:∀i,i≠u->((i<u+1)=(i<u)):=λ i h=>propext (by omega)
   refine Zas _ (Zfz _ _ [2,19] 19 u 900 1 1 N (by first|rfl|(simp(disch:=omega) only[go_sem,simprocAttr,hnu];done)|(simp(disch:=omega) only[go_sem,simprocAttr,hnu];rfl)) (by first|(simp(disch:=omega) only[go_sem,simprocAttr,hnu];done)|(simp(disch:=omega) only[go_sem,simprocAttr,hnu];rfl)) (by first|(simp(disch:=omega) only[go_sem,simprocAttr,hnu];done)|(simp(disch:=omega) only[go_sem,simprocAttr,hnu];rfl)) (λ i hi hne=>by simp(disch:=omega) only[go_sem,simprocAttr,hne,hnu];(repeat' split)<;>exact .ref _ _ _ _ _ ⟨by simp(disch:=omega) only[go_sem,simprocAttr,hne,hnu],by simp(disch:=omega) only[go_sem,simprocAttr,hne,hnu]⟩) (by(repeat' first|refine Zfn ?_|exact Ze4 (ids:=[2,19]) rfl rfl (uW rfl)|refine Zfr ?_|refine Zft ?_|refine Ze8 ?_|refine Zfa ?_|refine Zfe ?_|refine Ze6 (by dsimp only;omega) (by dsimp only;omega) (by omega) (by omega) (uW rfl) ?_);done) rfl rfl rfl) ?_;refine kw1 kO (kc2 hN.symm hnu) kc0 ?_;refine⟨u+1,?_,kF kc0 [(fid 1 u,29)] [] ?_,?_⟩
   ·omega
   ·exact kT1 (kc6 hzu hrl hnu hsu @Cw @uD.{0,0}) u
   ·omega
  ·have:N=u:=by omega
   subst this
   try dsimp only
   obtain⟨F,hF⟩:∃F:List D,F=[D.int ((i:Int)-1),D.int ((i:Int)+1)]:=⟨_,rfl⟩;have hFl:F.length=2:=by rw[hF];rfl
   have hFx:∀t,t<2->F[t]? =some (D.int (ZeF i t)):=λ t ht=>by
    rw[hF];rcases t with _|_|t
    ·rfl
    ·rfl
    ·omega
   refine kw1 kO kc0 kc0 ?_;refine Zez (λ(t:Nat)=>t<=2) (λ t=>[(1, .int i),(2, .ptr 2 0 0 0),(5, .ref 19 1 0 N N),(36, .d (.sl F)),(37, .int 2),(38, .int t)]) (λ t=>[⟨1,19,1,N,λ k=>(Za3 (A t k) N).map D.int⟩]) (λ t=>[(2, .cells [.int n, .d (Zae ls), .d (Zak ar), .d (Zae cs)])]) (λ t=>2-t) 0 ?_ ?_ ?_
   ·exact uI _
   ·refine kF (kc1 hF) [] [] ?_
    repeat' first|exact fmn|refine fmc ⟨?_,?_⟩
    all_goals refine⟨_,(by first|rfl|(simp(disch:=omega) only[go_sem,simprocAttr,hiN];done)|(simp(disch:=omega) only[go_sem,simprocAttr,hiN];rfl)),λ i hi=>?_⟩
    all_goals dsimp only at hi|-
    all_goals try (exfalso;omega)
    all_goals try (simp(disch:=omega) only[go_sem,simprocAttr,hiN,ZdI,ZdO];done)
   ·intro t ht;rcases uF t 2 with hlt2|hge2
    ·have hx:=hFx t hlt2;have hM:=hMs t;have hsq:=hMsq t;have hml:=hMlen t;have hS:=haccS t;generalize hR:Q t=R at*;refine kw1 kO (kc1 hx) (kc1 hM) ?_;refine Zez (λ(c:Nat)=>c<=R.length) (λ c=>[(1, .int i),(2, .ptr 2 0 0 0),(5, .ref 19 1 0 N N),(36, .d (.sl F)),(37, .int 2),(38, .int t),(45, .d (Zae R)),(46, .int R.length),(47, .int c)]) (λ c=>[⟨1,19,1,N,λ k=>if k<c then(Za3 (A (t+1) k) N).map D.int else(Za3 (A t k) N).map D.int⟩]) (λ c=>[(2, .cells [.int n, .d (Zae ls), .d (Zak ar), .d (Zae cs)])]) (λ c=>R.length-c) 0 ?_ ?_ ?_
     ·exact uI _
     ·refine kF (kc1 hFl) [] [] ?_;exact kT0 (kc1 @zS)
     ·intro c hc0;rcases uF c R.length with hlc|hgc
      ·have hRN:R.length=N:=by omega
       obtain⟨r,hr⟩:=Zad hlc;have hrl:=hsq.row r (uA hr);have hrN:r.length=N:=by omega
       have hnu:¬c<c:=by omega
       refine kw1 kO (kc2 hr hrN) kc0 ?_;refine Zez (λ(b:Nat)=>b<=N) (λ b=>[(1, .int i),(2, .ptr 2 0 0 0),(5, .ref 19 1 0 N N),(9, .int c),(36, .d (.sl F)),(37, .int 2),(38, .int t),(45, .d (Zae R)),(46, .int R.length),(47, .int c),(52, .d (Zab r)),(53, .int N),(54, .int b)]) (λ b=>[⟨1,19,1,N,λ k=>if k<c then(Za3 (A (t+1) k) N).map D.int else if k=c then(Zcx (A t c) (A (t+1) c) N b).map D.int else(Za3 (A t k) N).map D.int⟩]) (λ b=>[(2, .cells [.int n, .d (Zae ls), .d (Zak ar), .d (Zae cs)])]) (λ b=>N-b) 0 ?_ ?_ ?_
       ·exact uI _
       ·refine kF (kc1 hrN) [] [] ?_;exact kT1 (kc2 hnu @ZrX) c
       ·intro b hb;have hfl2:=Zjc (A t c) (A (t+1) c) N b;rcases uF b N with hlb|hgb
        ·obtain⟨p,hp,_,hpv,g1,g2⟩:=hsq.get hlc (show b<R.length by omega);rw[hr,yC]at hp;rw[<-hp]at hpv;have hcell:=hS c b;have ha:=hacc t c b;have hg:(Zcx (A t c) (A (t+1) c) N b)[b]? =some (A t c b):=Zp6 hlb;have hst:(Zcx (A t c) (A (t+1) c) N b).set b (A (t+1) c b)=Zcx (A t c) (A (t+1) c) N (b+1):=Zpo hlb;rw[hcell]at hst;refine Zas _ (Zfz _ _ [2,19] 19 c 900 1 1 N (by first|rfl|(simp(disch:=omega) only[go_sem,simprocAttr,hnu,hfl2];done)|(simp(disch:=omega) only[go_sem,simprocAttr,hnu,hfl2];rfl)) (by first|(simp(disch:=omega) only[go_sem,simprocAttr,hnu,hfl2];done)|(simp(disch:=omega) only[go_sem,simprocAttr,hnu,hfl2];rfl)) (by first|(simp(disch:=omega) only[go_sem,simprocAttr,hnu,hfl2];done)|(simp(disch:=omega) only[go_sem,simprocAttr,hnu,hfl2];rfl)) (λ i hi hne=>by simp(disch:=omega) only[go_sem,simprocAttr,hne,hnu,hfl2];(repeat' split)<;>exact .ref _ _ _ _ _ ⟨by simp(disch:=omega) only[go_sem,simprocAttr,hne,hnu,hfl2],by simp(disch:=omega) only[go_sem,simprocAttr,hne,hnu,hfl2]⟩) (by(repeat' first|refine Zfn ?_|exact Ze4 (ids:=[2,19]) rfl rfl (uW rfl)|refine Zfr ?_|refine Zft ?_|refine Ze8 ?_|refine Zfa ?_|refine Zfe ?_|refine Ze6 (by dsimp only;omega) (by dsimp only;omega) (by omega) (by omega) (uW rfl) ?_);done) rfl rfl rfl) ?_;refine kw1 kO (kc6 hr hrN hpv hg hfl2 hnu) kc0 ?_;refine⟨b+1,?_,kF kc0 [(fid 1 c,900)] [] ?_,?_⟩
         ·omega
         ·exact kT1 (kc6 @hst.symm @yP.{0,0} @yI.{0} @uD.{0,0} hfl2 hnu) c
         ·omega
        ·have:N=b:=by omega
         subst this;have hsu:∀i,i≠c->((i<c+1)=(i<c)):=λ i h=>propext (by omega)
         refine kw1 kO kc0 kc0 ?_;refine⟨c+1,?_,kF kc0 [] [] ?_,?_⟩
         ·omega
         ·exact kT1 (kc4 hnu hsu @Cw @Zrh) c
         ·omega
      ·have:R.length=c:=by omega
       subst this;refine kw1 kO kc0 kc0 ?_;rcases hml with hml|hml
       ·have hsame:∀k,Za3 (A (t+1) k) N=Za3 (A t k) N:=λ k=>ZgU λ v _=>by
         rw[hS,Zai,Zik (by omega)];simp[at0]
        refine⟨t+1,?_,kF kc0 [] [] ?_,?_⟩
        ·omega
        ·exact kT0 (kc3 hml @zS @hsame)
        ·omega
       ·have hRN:R.length=N:=by omega
        refine⟨t+1,?_,kF kc0 [] [] ?_,?_⟩
        ·omega
        ·repeat' first|exact fmn|refine fmc ⟨?_,?_⟩
         all_goals refine⟨_,(by first|rfl|(simp(disch:=omega) only[go_sem,simprocAttr,hRN,hiN];done)|(simp(disch:=omega) only[go_sem,simprocAttr,hRN,hiN];rfl)),λ i hi=>?_⟩
         all_goals dsimp only at hi|-
         all_goals try (exfalso;omega)
         all_goals try (simp(disch:=omega) only[go_sem,simprocAttr,hRN,hiN,ZdI,ZdO];done)
        ·omega
    ·have:t=2:=by omega
     subst this
     try dsimp only
     refine Zas _ (Zi7 _ _ _ _ ⟨ZbM rfl,ZbM rfl,(by(repeat' first|exact fmn|refine fmc ⟨⟨uW rfl,uW rfl,by dsimp only;omega⟩,?_⟩);done)⟩ rfl [2,19] rfl rfl rfl rfl) ?_;refine kw1 kO kc0 kc0 ?_;refine ZcK (o:=19) rfl rfl (by simp) ?_;rw[uG (by simp),sqM,gL];rfl
open Go.Bd (sm Zam Part)
theorem ZzP (a:Lv)(h:Zaq a=true):Zaa Tryz.prog 167 [lvD a] (lvD a):=by
 obtain⟨s1,s2,s3⟩:=Zix h;obtain⟨t1,t2⟩:=Zc7 h;have hca:=Zng a.2.2.1 (by omega);have hl1:∀(k:Nat) x,a.2.1[k]? =some x->Zaa Tryz.prog 214 [Zab x] (Zab x):=λ k x hx=>ZiJ x (by have:=ZcU (uA hx);omega)
 have hl2:∀(k:Nat) x,a.2.2.2[k]? =some x->Zaa Tryz.prog 214 [Zab x] (Zab x):=λ k x hx=>ZiJ x (by have:=s3 x (uA hx);omega)
 obtain⟨n,ls,ar,cs⟩:=a;dsimp only at*;refine kE Tryz.func167 ?_;intro hat B X w0;refine kw1 kO kc0 (kc1 hca) ?_;refine Zas _ (Zcy 3 1 901 1 rfl rfl rfl) ?_;refine Zaf (λ(k:Nat)=>k<=ls.length) (λ k=>[(1, .ptr 1 0 0 0),(2, .ptr 2 0 0 0),(3, .ptr 3 0 0 0),(15, .d (Zae ls)),(16, .int ls.length),(17, .int k)]) (λ k=>[(1, .cells [.int n, .d (Zae ls), .d (Zak ar), .d (Zae cs)]),(2, .cells [.int 0, .nilS, .nilS, .nilS]),(3, .cells [.int n, .ref 901 1 0 k k, .d (Zak ar), .nilS]),(901, .row 1 ((ls.take k).map Zab))]) (λ k=>ls.length-k) 0 ?_ ?_ ?_
 ·exact uI _
 ·exact kN (kc2 @qC.{0} @yS.{0,0}) []
 ·intro k hk;have hlk:(ls.take k).length=k:=by rw[uS];omega
  have htk:((ls.take k).map Zab).take k=(ls.take k).map Zab:=uG (by rw[uD,hlk];exact uH _);rcases uF k ls.length with hlt|hge
  ·obtain⟨x,hx⟩:=Zad hlt;have hc1:=hl1 k x hx;have e1:=ZaB hx
   repeat' first|refine Zbt rfl ?_|refine ZaX ?_|refine wR ?_|(refine rc (hc1) rfl ?_ ?_;(· first|rfl|simp(disch:=omega) only[go_sem,simprocAttr,hx,hlk,htk,roomy]))|(refine Zbv rfl rfl (λ hc=>?_) (λ hc=>?_)<;>try simp only[hcL]at hc)|(refine Zbx _ rfl rfl (λ hc=>?_) (λ hc=>?_)<;>(try simp only[hcL]at hc)<;>try omega)|simp(disch:=omega) only[go_sem,simprocAttr,hx,hlk,htk,roomy]|exact λ d hd=>by rw[uR.1 hd];rfl|apply And.intro|omega|decide+kernel
   refine⟨k+1,?_,kN (kc5 e1 htk @uU.{0,0} @uV.{0,0} @yS.{0,0}) [(901,26)],?_⟩
   ·omega
   ·omega
  ·have:k=ls.length:=by omega
   subst this
   try dsimp only
   rw[yF];refine kw1 kO kc0 kc0 ?_;refine Zas _ (Zcy 3 3 902 1 rfl rfl rfl) ?_;refine Zaf (λ(k:Nat)=>k<=cs.length) (λ k=>[(2, .ptr 2 0 0 0),(3, .ptr 3 0 0 0),(30, .d (Zae cs)),(31, .int cs.length),(32, .int k)]) (λ k=>[(2, .cells [.int 0, .nilS, .nilS, .nilS]),(3, .cells [.int n, .ref 901 1 0 ls.length ls.length, .d (Zak ar), .ref 902 1 0 k k]),(901, .row 1 (ls.map Zab)),(902, .row 1 ((cs.take k).map Zab))]) (λ k=>cs.length-k) 0 ?_ ?_ ?_
   ·exact uI _
   ·exact kN (kc2 @qC.{0} @yS.{0,0}) []
   ·intro k hk;have hlk:(cs.take k).length=k:=by rw[uS];omega
    have htk:((cs.take k).map Zab).take k=(cs.take k).map Zab:=uG (by rw[uD,hlk];exact uH _);rcases uF k cs.length with hlt|hge
    ·obtain⟨x,hx⟩:=Zad hlt;have hc1:=hl2 k x hx;have e1:=ZaB hx
     repeat' first|refine Zbt rfl ?_|refine ZaX ?_|refine wR ?_|(refine rc (hc1) rfl ?_ ?_;(· first|rfl|simp(disch:=omega) only[go_sem,simprocAttr,hx,hlk,htk,roomy]))|(refine Zbv rfl rfl (λ hc=>?_) (λ hc=>?_)<;>try simp only[hcL]at hc)|(refine Zbx _ rfl rfl (λ hc=>?_) (λ hc=>?_)<;>(try simp only[hcL]at hc)<;>try omega)|simp(disch:=omega) only[go_sem,simprocAttr,hx,hlk,htk,roomy]|exact λ d hd=>by rw[uR.1 hd];rfl|apply And.intro|omega|decide+kernel
     refine⟨k+1,?_,kN (kc5 e1 htk @uU.{0,0} @uV.{0,0} @yS.{0,0}) [(902,41)],?_⟩
     ·omega
     ·omega
    ·have:k=cs.length:=by omega
     subst this
     try dsimp only
     rw[yF];refine kw1 kO kc0 kc0 ?_;refine⟨_,_,_,_,rfl,?_⟩;simp(disch:=omega) only[go_sem,simprocAttr,toD,uD,uH,qU];rw[Zat,Zat]
def ZdT (m:List (List Int))(A b:Nat):Int:=sm (λ j=>if A<j then Zai m A j else 0) b
def ZgR (m:List (List Int))(A:Nat):Int:=sm (λ A=>ZdT m A m.length) A
theorem Zqy {m:List (List Int)}(hs:Sq m)(A b:Nat):0<=ZdT m A b/\ZdT m A b<=1000000*b:=Go.Bd.sm_bounds b λ k _=>by
 have:=Zrt hs A k;split<;>omega
theorem Zuq {m:List (List Int)}(hs:Sq m)(h8:m.length<=8)(A:Nat):0<=ZgR m A/\ZgR m A<=8000000*A:=
 Go.Bd.sm_bounds A λ k _=>by
  have:=Zqy hs k m.length;omega
theorem Zq5 (m:List (List Int))(A:Nat):∀n,A<n->ZdT m A n=sm (λ j=>Zai m A (A+1+j)) (n-1-A)
 |0,h=>by omega
 |n+1,h=>by
  have e:ZdT m A (n+1)=ZdT m A n+(if A<n then Zai m A n else 0):=rfl;rw[e];by_cases c:A<n
  ·rw[Zq5 m A n c,if_pos c,show n+1-1-A=(n-1-A)+1 by omega];have e2:sm (λ j=>Zai m A (A+1+j)) (n-1-A+1)=sm (λ j=>Zai m A (A+1+j)) (n-1-A)+Zai m A (A+1+(n-1-A)):=rfl;rw[e2,show A+1+(n-1-A)=n by omega]
  ·have:n=A:=by omega
   subst this;have z:∀k,k<=n->ZdT m n k=0:=by
    intro k
    induction k with
    |zero=>intro _;rfl
    |succ k ih=>
     intro hk;have e3:ZdT m n (k+1)=ZdT m n k+(if n<k then Zai m n k else 0):=rfl;rw[e3,ih (by omega),if_neg (by omega)];rfl
   rw[z n (uH _),if_neg c,show n+1-1-n=0 by omega];rfl
theorem sm_congr {f g:Nat->Int}:∀n,(∀k,k<n->f k=g k)->sm f n=sm g n
 |0,_=>rfl
 |n+1,h=>by
  have e:∀f:Nat->Int,sm f (n+1)=sm f n+f n:=λ _=>rfl
  rw[e,e,sm_congr n λ k hk=>h k (by omega),h n (by omega)]
theorem ZCg (m:List (List Int)):ZgR m m.length=Zam (Zai m) (List.range m.length):=by
 rw[Go.Bd.sumC_range,ZgR];exact sm_congr _ λ A hA=>Zq5 m A _ hA
theorem Zu6 (l:List Int)(hl:l.length<=1000000):Zaa Tryz.prog 52 [Zab l] (.bool (decide (l.length<=8))):=by
 refine kE Tryz.func52 ?_;intro hat B X w0;refine kw1 kO kc0 kc0 ?_;exact Zaj (by rw[gO];simp only[uE];omega)
theorem ZyL (a:Lv)(i:Nat)(hw:wide a)(hv:Zaq a=true)(har:a.2.2.1.length<=700)(hil:i<a.2.1.length):
  Zaa Tryz.prog 53 [lvD a, .int i] (.tup [Zcp (ZcG a i).1, .bool (ZcG a i).2]):=by
 obtain⟨y,hy⟩:=Zad hil;have hyl:=ZcU (uA hy);obtain⟨t1,t2⟩:=Zc7 hv;have h1:=Zu6 y (by omega);rw[ZcG,Zd8 hy];by_cases h8:8<y.length
 ·rw[if_pos h8];rw[yE (by omega)]at h1;obtain⟨n,ls,ar,cs⟩:=a;dsimp only at*;refine kE Tryz.func53 ?_;intro hat B X w0;refine kw1 kO (kc1 hy) (kc1 h1) ?_;exact⟨_,rfl,Zdd rfl,Zaj rfl,trivial⟩
 ·rw[if_neg h8];rw[yN (by omega)]at h1;have h2:=Zzl a i hw hv hil;have hmok:=ZtP (i:=i) har (by rw[Zd8 hy];exact h8);have h3:=Zr1 (orM a i);rw[if_pos hmok]at h3;obtain⟨hs,hm8⟩:=Znc hmok;have hml:=Zqu a i;rw[Zd8 hy]at hml;have hns:=ZCg (orM a i);have hbb:0<=(ZcJ (orM a i)).2/\(ZcJ (orM a i)).2<=64000000:=by
   obtain⟨g1,g2,_⟩:=Go.Bd.best_bounds hs.small hm8 (ZjT _) (Znt (orM a i));exact⟨g1,g2⟩
  rw[Zh8,Zd8 hy,<-hml,<-hns];have hni:=Zqy hs;have hnt:=Zuq hs hm8;have hIs:∀A b,ZdT (orM a i) A (b+1)=ZdT (orM a i) A b+(if A<b then Zai (orM a i) A b else 0):=λ _ _=>rfl
  have hTs:∀A,ZgR (orM a i) (A+1)=ZgR (orM a i) A+ZdT (orM a i) A (orM a i).length:=λ _=>rfl
  have hI0:∀A,ZdT (orM a i) A 0=0:=λ _=>rfl
  have hT0:ZgR (orM a i) 0=0:=rfl;generalize orM a i=m at*;generalize ZdT m=I at*;generalize ZgR m=T at*;generalize ZcJ m=BB at*;obtain⟨p,cost⟩:=BB;obtain⟨n,ls,ar,cs⟩:=a;dsimp only at*;refine kE Tryz.func53 ?_;intro hat B X w0;refine kw1 kO (kc1 hy) (kc2 h1 h2) ?_;refine Zaf (λ(u:Nat)=>u<=m.length) (λ u=>[(6, .d (Zae m)),(7, .int (T u)),(24, .int m.length),(25, .int u)]) (λ u=>[]) (λ u=>m.length-u) 0 ?_ ?_ ?_
  ·exact uI _
  ·exact kN (kc1 hT0) []
  ·intro u hu;have b1:=hnt u;rcases uF u m.length with hlt|hge
   ·have e1:=hTs u;refine kw1 kO kc0 kc0 ?_;refine Zaf (λ(b:Nat)=>b<=m.length) (λ b=>[(6, .d (Zae m)),(7, .int (T u+I u b)),(8, .int u),(24, .int m.length),(25, .int u),(29, .int m.length),(30, .int b)]) (λ b=>[]) (λ b=>m.length-b) 0 ?_ ?_ ?_
    ·exact uI _
    ·exact kN (kc2 hI0 @jT) []
    ·intro b hb;have b2:=hni u b;rcases uF b m.length with hlb|hgb
     ·obtain⟨q,hq,hql,hqv,g1,g2⟩:=hs.get hlt hlb;have e2:=hIs u b;by_cases c:u<b
      ·rw[if_pos c]at e2;refine kw1 kO (kc4 hq hqv hql c) kc0 ?_;refine⟨b+1,?_,kN (kc2 e2 @zI) [],?_⟩
       ·omega
       ·omega
      ·rw[if_neg c,jT]at e2;refine kw1 kO (kc1 c) kc0 ?_;refine⟨b+1,?_,kN (kc1 e2) [],?_⟩
       ·omega
       ·omega
     ·have:b=m.length:=by omega
      subst this;refine kw1 kO kc0 kc0 ?_;refine⟨u+1,?_,kN (kc1 e1) [],?_⟩
      ·omega
      ·omega
   ·have:u=m.length:=by omega
    subst this;refine kw1 kO kc0 (kc1 h3) ?_;refine⟨_,rfl,Zdd rfl,Zaj ?_,trivial⟩;rw[gO]
theorem Zwp (a:Lv)(i:Nat)(o:List Nat)(hw:wide a)(hv:Zaq a=true)(hil:i<a.2.1.length)(ho:Part (Zav a.2.1 i).length 0 o):
  Zaa Tryz.prog 168 [lvD a, .int i,Zcp o] (lvD (ZbP a i (ZaI (Zav a.2.1 i) o))):=by
 obtain⟨y,hy⟩:=Zad hil;have hyl:=ZcU (uA hy);obtain⟨t1,t2⟩:=Zc7 hv;rw[Zd8 hy]at ho|-;have hol:=ho.len;have hr:=Zrj a i (ZaI y o) hw (by rw[Zmb];omega);rw[ZCe hv hy ho]at hr;generalize ZbP a i (ZaI y o)=P at*;obtain⟨n',ls',ar',cs'⟩:=P;obtain⟨n,ls,ar,cs⟩:=a;dsimp only at*;refine kE Tryz.func168 ?_;intro hat B X w0;refine kw1 kO kc0 kc0 ?_;refine Zas _ (ZdV 7 901 1 rfl rfl) ?_;refine Zaf (λ(k:Nat)=>k<=o.length) (λ k=>[(1, .int i),(3, .ptr 3 0 0 0),(6, .ptr 6 0 0 0),(7, .ref 901 1 0 k k),(12, .d (Zcp o)),(13, .int o.length),(14, .int k)]) (λ k=>[(3, .cells [.int n, .d (Zae ls), .d (Zak ar), .d (Zae cs)]),(6, .cells [.int 0, .nilS, .nilS, .nilS]),(901, .row 1 (((ZaI y o).take k).map D.int))]) (λ k=>o.length-k) 0 ?_ ?_ ?_
 ·exact uI _
 ·exact kN (kc2 @qC.{0} @yS.{0,0}) []
 ·intro k hk;have hlk:((ZaI y o).take k).length=k:=by rw[uS,Zmb];omega
  have htk:(((ZaI y o).take k).map D.int).take k=((ZaI y o).take k).map D.int:=uG (by rw[uD,hlk];exact uH _);rcases uF k o.length with hlt|hge
  ·obtain⟨q,hq⟩:=Zad hlt;have hqn:=ho.lt q (uA hq);have hyq:y[q]? =some (yG y q):=by rw[yG,uQ hqn];rfl
   have e1:(ZaI y o).take (k+1)=(ZaI y o).take k++[yG y q]:=ZaB (by rw[ZaI,uJ,hq];rfl);generalize(ZaI y o).take k=R at*;refine kw1 kO (kc5 hy hq hyq hlk htk) kc0 ?_;refine⟨k+1,?_,kN (kc5 e1 htk @uU.{0,0} @uV.{0,0} @yS.{0,0}) [(901,28)],?_⟩
   ·omega
   ·omega
  ·have:k=o.length:=by omega
   subst this;have hfull:(ZaI y o).take o.length=ZaI y o:=uG (by rw[Zmb];exact uH _);rw[hfull]at hlk htk;rw[hfull];refine Zas _ (Zde 901 1 ((ZaI y o).map D.int) rfl (ZcW _ rfl) (by decide)) ?_;refine kw1 kO (kc3 hlk htk @qU.{0}) (kc1 hr) ?_;refine⟨_,_,_,_,rfl,?_⟩;simp(disch:=omega) only[go_sem,simprocAttr,toD]
theorem Zyw (a:Lv)(hw:wide a)(har:a.2.2.1.length<=700):Zaa Tryz.prog 104 [lvD a] (lvD (if Zaq a then ZcF a else lv0)):=by
 have h1:=Zhd a hw;rcases hv:Zaq a with _|_<;>rw[hv]at h1
 ·rw[if_neg (by decide)];refine kE Tryz.func104 ?_;intro hat B X w0;refine kw1 kO kc0 (kc1 h1) ?_;refine⟨_,_,_,_,rfl,?_⟩;simp(disch:=omega) only[go_sem,simprocAttr,toD];rfl
 ·rw[if_pos rfl];obtain⟨t1,t2⟩:=Zc7 hv;have h2:=ZzP a hv;have hK0:=Kin.refl hv hw;have h3:∀(b:Lv) (i:Nat),Kin a b->i<a.2.1.length->Zaa Tryz.prog 53 [lvD b, .int i] (.tup [Zcp (ZcG b i).1, .bool (ZcG b i).2]):=λ b i h hi=>ZyL b i h.wd h.ok (by rw[h.arcs];exact har) (by rw[h.len];exact hi)
  have h4:∀(b:Lv) (i:Nat),Kin a b->i<a.2.1.length->(ZcG b i).2=true->Zaa Tryz.prog 168 [lvD b, .int i,Zcp (ZcG b i).1] (lvD (ZeP b i)):=λ b i h hi hb=>by
   have hy:=ZnH hb;have e:(ZcG b i).1=(ZcJ (orM b i)).1:=by rw[ZcG,if_neg hy.1]
   rw[e];exact Zwp b i _ h.wd h.ok (by rw[h.len];exact hi) (Zol b i)
  obtain⟨M,hM⟩:∃M,M=Zeb a 0:=⟨_,rfl⟩;rw[ZcF,<-hM];generalize hR:ZbQ M a 0=R;obtain⟨L,hL⟩:∃L,L=a.2.1.length:=⟨_,rfl⟩;rw[<-hL]at h3 h4 t1;refine kE Tryz.func104 ?_;intro hat B X w0;refine kw1 kO kc0 (kc2 h1 h2) ?_;refine Zaf (λ(q:Nat×Lv×Nat)=>match q with|(f,b,i)=>Kin a b/\Zeb b i<=f/\i<=L/\ZbQ f b i=R) (λ(f,b,i)=>[(1, .ptr 1 0 0 0),(2, .ptr 2 0 0 0),(3, .int i)]) (λ(f,b,i)=>[(1, .cells [.int b.1, .d (Zae b.2.1), .d (Zak b.2.2.1), .d (Zae b.2.2.2)]),(2, .cells [.int 0, .nilS, .nilS, .nilS])]) (λ(f,b,i)=>f) (M,a,0) ?_ ?_ ?_
  ·exact⟨hK0,Nat.le_of_eq hM.symm,uI _,hR⟩
  ·exact kN kc0 []
  ·rintro⟨f,b,i⟩ ⟨hK,hms,hi,hres⟩;dsimp only at hK hms hi hres|-;have hbl:b.2.1.length=L:=by rw[hK.len,hL]
   rcases uF i L with hlt|hge
   ·have hf:0<f:=by
     have:Zeb b i=(Za7 b).toNat*(b.2.1.length+1)+(b.2.1.length-i):=rfl;omega
    obtain⟨f,rfl⟩:∃g,f=g+1:=⟨f-1,by omega⟩;rw[ZbQ,if_pos (by omega)]at hres;have c1:=h3 b i hK hlt;rcases hb:(ZcG b i).2 with _|_
    ·rw[hb]at c1;rw[hb,if_neg (by decide)]at hres;have hs:=ZoD (b:=b) (i:=i) (by omega);clear h3 h4;obtain⟨n,ls,ar,cs⟩:=b;dsimp only at hbl hb c1|-;refine kw1 kO (kc1 hbl) (kc1 c1) ?_;refine⟨(f,(n,ls,ar,cs),i+1),?_,kN (kc2 @qN @gQ) [],?_⟩
     ·exact⟨hK,by dsimp only;omega,hlt,hres⟩
     ·exact Nat.lt_succ_self _
    ·have c2:=h4 b i hK hlt hb;rw[hb]at c1;rw[hb,if_pos rfl]at hres;have hs:=Zrb hK (by omega) (ZnH hb).2;have hK2:=ZmW hK (i:=i) (by omega);clear h3 h4;generalize ZeP b i=P at*;obtain⟨n,ls,ar,cs⟩:=b;dsimp only at hbl hb c1 c2|-;refine kw1 kO (kc1 hbl) (kc2 c1 c2) ?_;refine⟨(f,P,0),?_,kN kc0 [],?_⟩
     ·exact⟨hK2,by dsimp only;omega,uI _,hres⟩
     ·exact Nat.lt_succ_self _
   ·rw[Zo6 (by omega)]at hres;subst hres;obtain⟨n,ls,ar,cs⟩:=b;dsimp only at hbl|-;refine kw1 kO (kc1 hbl) kc0 ?_;refine⟨_,_,_,_,rfl,?_⟩;simp(disch:=omega) only[go_sem,simprocAttr,toD]
def ZhG (a:Lv)(r:Int):Lv×Int×Int:=
 if Zaq a=true/\0<=r/\r<=100 then(ZcF (ZbH a r.toNat),Za7 (ZcF (ZbH a r.toNat)),0)else(lv0,0,1)
theorem Zuu (a:Lv)(r:Int)(hw:wide a)(har:a.2.2.1.length<=700):Zaa Tryz.prog 50 [lvD a, .int r] (.tup [lvD (ZhG a r).1, .int (ZhG a r).2.1, .int (ZhG a r).2.2]):=by
 have h1:=Zhd a hw;rw[ZhG];by_cases hall:Zaq a=true/\0<=r/\r<=100
 ·rw[if_pos hall];obtain⟨hv,hr0,hr1⟩:=hall;rw[hv]at h1;obtain⟨t1,t2⟩:=Zc7 hv;have hb:=ZxB a r hw har;have hrr:ZfY r=r.toNat:=by rw[ZfY];omega
  rw[Zln,if_pos hv,hrr]at hb;have hK:=Znl hv hw r.toNat;have h3:=Zyw (ZbH a r.toNat) hK.wd (by rw[hK.arcs];exact har);rw[if_pos hK.ok]at h3;have hK2:=(ZvQ hK.ok hK.wd).1;have h4:=Zs8 (ZcF (ZbH a r.toNat)) hK2.wd (by rw[hK2.len,hK.len];omega);dsimp only at hb|-;generalize ZcF (ZbH a r.toNat)=Q at*;generalize ZbH a r.toNat=P at*;generalize Za7 P=tp at*;generalize Za7 Q=tq at*;clear hK hK2;obtain⟨n1,ls1,ar1,cs1⟩:=Q;obtain⟨n2,ls2,ar2,cs2⟩:=P;refine kE Tryz.func50 ?_;intro hat B X w0;refine kw1 kO kc0 (kc4 h1 hb h3 h4) ?_;refine⟨_,rfl,⟨_,_,_,_,rfl,?_⟩,Zah rfl,Zah rfl,trivial⟩;simp(disch:=omega) only[go_sem,simprocAttr,toD]
 ·rw[if_neg hall];rcases hv:Zaq a with _|_<;>rw[hv]at h1
  ·refine kE Tryz.func50 ?_;intro hat B X w0;refine kw1 kO kc0 (kc1 h1) ?_;refine⟨_,rfl,⟨_,_,_,_,rfl,?_⟩,Zah rfl,Zah rfl,trivial⟩;simp(disch:=omega) only[go_sem,simprocAttr,toD];rfl
  ·have hn:¬(0<=r/\r<=100):=λ h=>hall ⟨hv,h⟩
   refine kE Tryz.func50 ?_;intro hat B X w0;refine kw kO kc0 (kc1 h1) ?_
   repeat' first|exact True.intro|refine Bn.mk ?_ ?_|intro hc
   all_goals
    refine⟨_,rfl,⟨_,_,_,_,rfl,?_⟩,Zah rfl,Zah rfl,trivial⟩;simp(disch:=omega) only[go_sem,simprocAttr,toD];rfl
end Go.Proofs.YtjjbhjnpeenbkaaGreatDoor
namespace Go.Proofs.YtjjbhjnpeenbkaaGreatDoor
open Go Go.PS Go.Proofs
set_option maxRecDepth 100000
attribute [local irreducible] Zac wpG Zaa Zag
open Go.Bd (sm Zam Part)
end Go.Proofs.YtjjbhjnpeenbkaaGreatDoor
namespace Go.Proofs.YtjjbhjnpeenbkaaGreatDoor
open Go Go.PS Go.Proofs
set_option maxRecDepth 100000
attribute [local irreducible] Zac wpG Zaa Zag
open Go.Bd (sm Zam Part)
theorem ZBv {a b:Lv}(h:Kin a b):Kin a (ZcF b)/\Za7 (ZcF b)<=Za7 b/\∀j,j<a.2.1.length->(ZcG (ZcF b) j).2=false:=
 ZkA _ b 0 h (uH _) (uI _) (λ j hlj=>absurd hlj (zS j))
end Go.Proofs.YtjjbhjnpeenbkaaGreatDoor
namespace Go.Proofs.YtjjbhjnpeenbkaaGreatDoor.Sx
open Go Go.PS Go.Proofs
set_option maxRecDepth 100000
attribute [local irreducible] Zac wpG Zaa
abbrev Bd :=Int×Int×Int×Int
abbrev bdD (b:Bd):D:= .ag [.int b.1, .int b.2.1, .int b.2.2.1, .int b.2.2.2]
abbrev ZbN (l:List Bd):D:= .sl (l.map bdD)
abbrev Zab (l:List Int):D:= .sl (l.map D.int)
abbrev Net :=Int×List Bd
abbrev nD (n:Net):D:= .ag [.int n.1,ZbN n.2]
theorem ZfR (a b:Int):(if b<a then b else a)=min a b:=by omega
theorem ZfK (a b:Int):(if a<b then b else a)=max a b:=by omega
def bdIn (n:Int)(b:Bd):Bool:=decide (0<=b.1/\b.1<n/\0<=b.2.1/\b.2.1<n/\b.1≠b.2.1/\-16777216<=b.2.2.1/\b.2.2.1<=16777216/\0<=b.2.2.2/\b.2.2.2<=8000)
def nOk (n:Net):Bool:=decide (0<=n.1/\n.1<=2048/\n.2.length<=4096)&& !n.2.any (λ b=> !bdIn n.1 b)
theorem ZeL {n:Net}(h:nOk n=true):0<=n.1/\n.1<=2048/\n.2.length<=4096/\∀(k:Nat) b,n.2[k]? =some b->
  0<=b.1/\b.1<n.1/\0<=b.2.1/\b.2.1<n.1/\b.1≠b.2.1/\-16777216<=b.2.2.1/\b.2.2.1<=16777216/\0<=b.2.2.2/\b.2.2.2<=8000:=by
 simp only[nOk,uK,uE,yD,yR]at h;obtain⟨⟨h1,h2,h3⟩,h4⟩:=h;refine⟨h1,h2,h3,λ k b hk=>?_⟩;have:=h4 b (uA hk);simpa[bdIn]using this
theorem Zga (g:Net):Zaa Tryz.prog 159 [nD g] (.bool (nOk g)):=by
 obtain⟨n,l⟩:=g;refine kE Tryz.func159 ?_;intro hat B X w0;have hl:=ZbZ 0 1 hat rfl rfl;rw[uD]at hl;refine kw kO kc0 kc0 ?_
 repeat' first|exact True.intro|refine Bn.mk ?_ ?_|intro hc
 all_goals try (refine Zaj ?_;simp[nOk];omega)
 refine Zaf (λ(k:Nat)=>k<=l.length/\∀(j:Nat) y,j<k->l[j]? =some y->(!bdIn n y)=false) (λ k=>[(1, .ptr 1 0 0 0),(20, .d (ZbN l)),(21, .int l.length),(22, .int k)]) (λ k=>[(1, .cells [.int n, .d (ZbN l)])]) (λ k=>l.length-k) 0 ?_ ?_ ?_
 ·exact⟨uI _,λ j y h=>by omega⟩
 ·exact kN kc0 []
 ·rintro k ⟨hk,hinv⟩;rcases uF k l.length with hlt|hge
  ·obtain⟨p,hp⟩:=Zad hlt;refine kw kO (kc3 hp @ZfR @ZfK) kc0 ?_
   repeat' first|exact True.intro|refine Bn.mk ?_ ?_|intro hc
   all_goals try
    refine Zaj ?_;rw[nOk,Zb8 hp (by rw[bdIn,yD,qA];omega)];simp
   ·refine⟨k+1,?_,eL [] _ _ (by refine⟨?_,?_⟩<;>(repeat' first|exact fmn|refine fmc ⟨(by first|rfl|(simp(disch:=omega) only[go_sem,simprocAttr,inL];first|done|omega|(congr 1;done))),?_⟩);done),?_⟩
    ·exact⟨by omega,Zbe hinv hp (by rw[bdIn,Af,uE];omega)⟩
    ·omega
  ·refine kw1 kO kc0 kc0 ?_;refine Zaj ?_;rw[nOk,Zcq (λ j y hj=>hinv j y (by omega))];simp;omega
theorem ZiY (g:Net):Zaa Tryz.prog 133 [nD g] (.bool (nOk g)):=by
 obtain⟨n,l⟩:=g;refine kE Tryz.func133 ?_;intro hat B X w0;have hl:=ZbZ 0 1 hat rfl rfl;rw[uD]at hl;refine kw kO kc0 kc0 ?_
 repeat' first|exact True.intro|refine Bn.mk ?_ ?_|intro hc
 all_goals try (refine Zaj ?_;simp[nOk];omega)
 refine Zaf (λ(k:Nat)=>k<=l.length/\∀(j:Nat) y,j<k->l[j]? =some y->(!bdIn n y)=false) (λ k=>[(1, .ptr 1 0 0 0),(3, .int k)]) (λ k=>[(1, .cells [.int n, .d (ZbN l)])]) (λ k=>l.length-k) 0 ?_ ?_ ?_
 ·exact⟨uI _,λ j y h=>by omega⟩
 ·exact kN kc0 []
 ·rintro k ⟨hk,hinv⟩;rcases uF k l.length with hlt|hge
  ·obtain⟨p,hp⟩:=Zad hlt;refine kw kO (kc1 hp) kc0 ?_
   repeat' first|exact True.intro|refine Bn.mk ?_ ?_|intro hc
   all_goals try
    refine Zaj ?_;rw[nOk,Zb8 hp (by rw[bdIn,yD,qA];omega)];simp
   ·refine⟨k+1,?_,eL [] _ _ (by refine⟨?_,?_⟩<;>(repeat' first|exact fmn|refine fmc ⟨(by first|rfl|(simp(disch:=omega) only[go_sem,simprocAttr,inL];first|done|omega|(congr 1;done))),?_⟩);done),?_⟩
    ·exact⟨by omega,Zbe hinv hp (by rw[bdIn,Af,uE];omega)⟩
    ·omega
  ·refine kw1 kO kc0 kc0 ?_;refine Zaj ?_;rw[nOk,Zcq (λ j y hj=>hinv j y (by omega))];simp;omega
def Zht (x:Int):Bool:=decide (-34359738368<=x/\x<=34359738368)
def rkOk (g:Net)(r:List Int):Bool:=nOk g&&decide ((r.length:Int)=g.1)&& !r.any (λ x=> !Zht x)
def at0 (r:List Int)(v:Int):Int:=(r[v.toNat]?).getD 0
theorem Zdu {r:List Int}{v:Int}(h1:0<=v)(h2:v<r.length):r[v.toNat]? =some (at0 r v):=by
 obtain⟨x,hx⟩:=Zad (show v.toNat<r.length by omega);rw[at0,hx];rfl
theorem rkOk_in {g:Net}{r:List Int}(h:rkOk g r=true):nOk g=true/\(r.length:Int)=g.1/\∀v:Int,0<=v->v<g.1->r[v.toNat]? =some (at0 r v)/\-34359738368<=at0 r v/\at0 r v<=34359738368:=by
 simp only[rkOk,uK,uE,yD,yR]at h;obtain⟨⟨h1,h2⟩,h3⟩:=h;refine⟨h1,h2,λ v hv1 hv2=>?_⟩;have:=Zdu hv1 (show v<r.length by omega);refine⟨this,?_⟩;have:=h3 _ (uA this);simpa[Zht]using this
theorem ZiR (g:Net)(r:List Int):Zaa Tryz.prog 85 [nD g,Zab r] (.bool (rkOk g r)):=by
 rcases hg:nOk g with _|_
 ·have hv:Zaa Tryz.prog 133 [nD g] (.bool false):=hg▸ZiY g;refine kE Tryz.func85 ?_;intro hat B X w0;refine kw1 kO kc0 (kc1 hv) ?_
  all_goals (refine Zaj ?_;simp[rkOk,hg])
 ·have hv:Zaa Tryz.prog 133 [nD g] (.bool true):=hg▸ZiY g;obtain⟨h1,h2,h3,h4⟩:=ZeL hg;refine kE Tryz.func85 ?_;intro hat B X w0;have hl:=ZaU 1 hat rfl;rw[uD]at hl;refine kw kO kc0 (kc1 hv) ?_
  repeat' first|exact True.intro|refine Bn.mk ?_ ?_|intro hc
  all_goals try (refine Zaj ?_;simp[rkOk,hg];omega)
  refine Zaf (λ(k:Nat)=>k<=r.length/\∀(j:Nat) y,j<k->r[j]? =some y->(!Zht y)=false) (λ k=>[(1, .d (Zab r)),(5, .int k)]) (λ k=>[]) (λ k=>r.length-k) 0 ?_ ?_ ?_
  ·exact⟨uI _,λ j y h=>by omega⟩
  ·exact kN kc0 []
  ·rintro k ⟨hk,hinv⟩;rcases uF k r.length with hlt|hge
   ·obtain⟨p,hp⟩:=Zad hlt;refine kw kO (kc1 hp) kc0 ?_
    repeat' first|exact True.intro|refine Bn.mk ?_ ?_|intro hc
    all_goals try
     refine Zaj ?_;rw[rkOk,Zb8 hp (by rw[Zht,yD,qA];omega)];simp
    ·refine⟨k+1,?_,eL [] _ _ (by refine⟨?_,?_⟩<;>(repeat' first|exact fmn|refine fmc ⟨(by first|rfl|(simp(disch:=omega) only[go_sem,simprocAttr,inL];first|done|omega|(congr 1;done))),?_⟩);done),?_⟩
     ·exact⟨by omega,Zbe hinv hp (by rw[Zht,Af,uE];omega)⟩
     ·omega
   ·refine kw1 kO kc0 kc0 ?_;refine Zaj ?_;rw[rkOk,Zcq (λ j y hj=>hinv j y (by omega))];simp[hg];omega
def gap (r:List Int)(b:Bd):Int:=at0 r b.2.1-at0 r b.1
def Zcl (g:Net)(r:List Int):Bool:=rkOk g r&& !g.2.any (λ b=>decide (gap r b<b.2.2.1))
theorem ZsU (g:Net)(r:List Int):Zaa Tryz.prog 38 [nD g,Zab r] (.bool (Zcl g r)):=by
 rcases hr:rkOk g r with _|_
 ·have hv:Zaa Tryz.prog 85 [nD g,Zab r] (.bool false):=hr▸ZiR g r;refine kE Tryz.func38 ?_;intro hat B X w0;refine kw1 kO kc0 (kc1 hv) ?_;refine Zaj ?_;simp[Zcl,hr]
 ·have hv:Zaa Tryz.prog 85 [nD g,Zab r] (.bool true):=hr▸ZiR g r;obtain⟨hg,hlen,hat0⟩:=rkOk_in hr;obtain⟨h1,h2,h3,h4⟩:=ZeL hg;obtain⟨n,l⟩:=g;dsimp only at h1 h2 h3 h4 hlen hat0;refine kE Tryz.func38 ?_;intro hat B X w0;refine kw1 kO kc0 (kc1 hv) ?_;refine Zaf (λ(k:Nat)=>k<=l.length/\∀(j:Nat) y,j<k->l[j]? =some y->decide (gap r y<y.2.2.1)=false) (λ k=>[(1, .d (Zab r)),(2, .ptr 2 0 0 0),(5, .int k)]) (λ k=>[(2, .cells [.int n, .d (ZbN l)])]) (λ k=>l.length-k) 0 ?_ ?_ ?_
  ·exact⟨uI _,λ j y h=>by omega⟩
  ·exact kN kc0 []
  ·rintro k ⟨hk,hinv⟩;rcases uF k l.length with hlt|hge
   ·obtain⟨p,hp⟩:=Zad hlt;have hb:=h4 k p hp;obtain⟨e1,e2,e3⟩:=hat0 p.1 (by omega) (by omega);obtain⟨f1,f2,f3⟩:=hat0 p.2.1 (by omega) (by omega);refine kw kO (kc3 hp e1 f1) kc0 ?_
    repeat' first|exact True.intro|refine Bn.mk ?_ ?_|intro hc
    ·refine Zaj ?_;rw[Zcl,Zb8 hp (by rw[gap,uE];omega)];simp
    ·refine⟨k+1,?_,eL [] _ _ (by refine⟨?_,?_⟩<;>(repeat' first|exact fmn|refine fmc ⟨(by first|rfl|(simp(disch:=omega) only[go_sem,simprocAttr,inL];first|done|omega|(congr 1;done))),?_⟩);done),?_⟩
     ·exact⟨by omega,Zbe hinv hp (by rw[gap,qA];omega)⟩
     ·omega
   ·refine kw1 kO kc0 kc0 ?_;refine Zaj ?_;rw[Zcl,Zcq (λ j y hj=>hinv j y (by omega)),hr];rfl
def Zar (f:Nat->Int):Nat->Int
 |0=>0
 |k+1=>Zar f k+f k
theorem sumI_succ (f:Nat->Int)(k:Nat):Zar f (k+1)=Zar f k+f k:=rfl
theorem Zld {f:Nat->Int}{c:Int}{m:Nat}(h:∀k,k<m->-c<=f k/\f k<=c):∀k,k<=m->-(c*k)<=Zar f k/\Zar f k<=c*k:=by
 intro k
 induction k with
 |zero=>intro _;simp[Zar]
 |succ k ih=>
  intro hk;have h1:=ih (by omega);have h2:=h k (by omega);have:c*((k+1:Nat):Int)=c*k+c:=by rw[Int.natCast_succ,kY,Int.mul_one]
  rw[Zar,this];omega
def Zb6 (r:List Int)(l:List Bd)(k:Nat):Int:=match l[k]? with
 |some b=>b.2.2.2*gap r b
 |none=>0
theorem costAt_some {r:List Int}{l:List Bd}{k:Nat}{b:Bd}(h:l[k]? =some b):Zb6 r l k=b.2.2.2*(at0 r b.2.1-at0 r b.1):=by simp[Zb6,h,gap]
def ZeV (g:Net)(r:List Int):Int:=if rkOk g r then Zar (Zb6 r g.2) g.2.length else 0
theorem ZuX {w x c d:Int}(h1:0<=w)(h2:w<=c)(h3:-d<=x)(h4:x<=d):-(c*d)<=w*x/\w*x<=c*d:=by
 have hd:0<=d:=by omega
 have e1:w*x<=w*d:=jX h4 h1;have e2:w*d<=c*d:=jU h2 hd;have e3:w*-d<=w*x:=jX h3 h1;rw[Int.mul_neg]at e3;omega
theorem Zye {g:Net}{r:List Int}(hr:rkOk g r=true):(∀k,k<g.2.length->-549755813888000<=Zb6 r g.2 k/\Zb6 r g.2 k<=549755813888000):=by
 obtain⟨hg,hlen,hat0⟩:=rkOk_in hr;obtain⟨h1,h2,h3,h4⟩:=ZeL hg;intro k hk;obtain⟨b,hb⟩:=Zad hk;have:=h4 k b hb;obtain⟨e1,e2,e3⟩:=hat0 b.1 (by omega) (by omega);obtain⟨f1,f2,f3⟩:=hat0 b.2.1 (by omega) (by omega);rw[costAt_some hb];have:=ZuX (w:=b.2.2.2) (x:=at0 r b.2.1-at0 r b.1) (c:=8000) (d:=68719476736) (by omega) (by omega) (by omega) (by omega);omega
theorem ZnL (g:Net)(r:List Int):Zaa Tryz.prog 39 [nD g,Zab r] (.int (ZeV g r)):=by
 rcases hr:rkOk g r with _|_
 ·have hv:Zaa Tryz.prog 85 [nD g,Zab r] (.bool false):=hr▸ZiR g r;refine kE Tryz.func39 ?_;intro hat B X w0;refine kw1 kO kc0 (kc1 hv) ?_;refine Zah ?_;simp[ZeV,hr]
 ·have hv:Zaa Tryz.prog 85 [nD g,Zab r] (.bool true):=hr▸ZiR g r;have hcb:=Zye hr;obtain⟨hg,hlen,hat0⟩:=rkOk_in hr;obtain⟨h1,h2,h3,h4⟩:=ZeL hg;obtain⟨n,l⟩:=g;dsimp only at h1 h2 h3 h4 hlen hat0 hcb;refine kE Tryz.func39 ?_;intro hat B X w0;refine kw1 kO kc0 (kc1 hv) ?_;refine Zaf (λ(k:Nat)=>k<=l.length) (λ k=>[(1, .d (Zab r)),(2, .ptr 2 0 0 0),(5, .int (Zar (Zb6 r l) k)),(6, .int k)]) (λ k=>[(2, .cells [.int n, .d (ZbN l)])]) (λ k=>l.length-k) 0 ?_ ?_ ?_
  ·exact uI _
  ·exact kN kc0 []
  ·intro k hk;rcases uF k l.length with hlt|hge
   ·obtain⟨p,hp⟩:=Zad hlt;have hb:=h4 k p hp;obtain⟨e1,e2,e3⟩:=hat0 p.1 (by omega) (by omega);obtain⟨f1,f2,f3⟩:=hat0 p.2.1 (by omega) (by omega);have hs:=Zld hcb k (by omega);have hc1:=hcb k hlt;have hsu:=sumI_succ (Zb6 r l) k;rw[costAt_some hp]at hsu hc1;refine kw1 kO (kc3 hp e1 f1) kc0 ?_;refine⟨k+1,?_,kN (kc1 hsu) [],?_⟩
    ·omega
    ·omega
   ·refine kw1 kO kc0 kc0 ?_;refine Zah ?_;have:k=l.length:=by omega
    simp[ZeV,hr,this]
def Zbj (l:List Bd)(f:List Int)(v:Int)(j:Nat):Int:=match l[j]?,f[j]? with
 |some b,some x=>(if b.2.1=v then x-b.2.2.2 else 0)-(if b.1=v then x-b.2.2.2 else 0)
 |_,_=>0
def ZcC (l:List Bd)(f:List Int)(n k:Nat):List Int:=(List.range n).map λ v:Nat=>Zar (Zbj l f v) k
theorem Zlu (l:List Bd)(f:List Int)(n k:Nat):(ZcC l f n k).length=n:=by simp[ZcC]
theorem ZA7 (l:List Bd)(f:List Int)(n:Nat):(ZcC l f n 0).map D.int=List.replicate n (D.int 0):=by
 rw[kV];refine⟨by simp[ZcC],λ b hb=>?_⟩;simp only[ZcC,gL,uN]at hb;obtain⟨u,_,rfl⟩:=hb;rfl
theorem ZjZ {l:List Bd}{f:List Int}{n k u:Nat}(hu:u<n):(ZcC l f n k)[u]? =some (Zar (Zbj l f u) k):=by simp[ZcC,hu]
theorem Zwq {l:List Bd}{f:List Int}{n k i j:Nat}{b:Bd}{x:Int}(hb:l[k]? =some b)(hx:f[k]? =some x)(hi:b.1=i)(hj:b.2.1=j)(hij:i≠j)(hin:i<n)(hjn:j<n):
  ZcC l f n (k+1)=((ZcC l f n k).set j (Zar (Zbj l f j) k+(x-b.2.2.2))).set i (Zar (Zbj l f i) k-(x-b.2.2.2)):=by
 refine qI λ u=>?_
 by_cases hu:u<n
 ·rw[ZjZ hu,sumI_succ,qD,qD,yI,Zlu,ZjZ hu];have e:Zbj l f u k=(if b.2.1=(u:Int)then x-b.2.2.2 else 0)-(if b.1=(u:Int)then x-b.2.2.2 else 0):=by simp[Zbj,hb,hx]
  rw[e,hi,hj];by_cases c1:i=u
  ·subst c1;rw[if_neg (by omega),if_pos rfl,if_pos rfl,if_pos hu];congr 1;omega
  ·by_cases c2:j=u
   ·subst c2;rw[if_pos rfl,if_neg (by omega),if_neg c1,if_pos rfl,if_pos hu];congr 1;omega
   ·rw[if_neg (by omega),if_neg (by omega),if_neg c1,if_neg c2];congr 1;omega
 ·rw[uP (by rw[Zlu];omega),uP (by rw[yI,yI,Zlu];omega)]
def Zgj (r:List Int)(l:List Bd)(f:List Int)(j:Nat):Bool:=match l[j]?,f[j]? with
 |some b,some x=>decide (0<=x/\x<=1099511627776/\(0<x->gap r b=b.2.2.1))
 |_,_=>false
def ZhW (g:Net)(r f:List Int):Bool:=Zcl g r&&decide (f.length=g.2.length)&&Zes (Zgj r g.2 f) g.2.length&& !(ZcC g.2 f g.1.toNat g.2.length).any (λ x=>decide (x≠0))
theorem Zqe {l:List Bd}{f r:List Int}{v:Int}{m:Nat}(hm:m<=l.length)(h4:∀(k:Nat) b,l[k]? =some b->0<=b.2.2.2/\b.2.2.2<=8000)(ho:Zes (Zgj r l f) m=true):
  -(1099511635776*(m:Int))<=Zar (Zbj l f v) m/\Zar (Zbj l f v) m<=1099511635776*(m:Int):=by
 refine Zld (m:=m) (λ k hk=>?_) m (uH _);have:=ZqD.1 ho k hk;obtain⟨b,hb⟩:=Zad (show k<l.length by omega);have h5:=h4 k b hb;cases hx:f[k]? with
 |none=>simp[Zgj,hb,hx]at this
 |some x=>
  simp only[Zgj,hb,hx,uE]at this;simp only[Zbj,hb,hx];split<;>split<;>omega
theorem ZAx {l:List Bd}{f:List Int}{n k i j:Nat}{b:Bd}{x:Int}(hb:l[k]? =some b)(hx:f[k]? =some x)(hi:b.1=i)(hj:b.2.1=j)(hij:i≠j)(hin:i<n)(hjn:j<n):
  ZcC l f n (k+1)=((ZcC l f n k).set j (Zar (Zbj l f j) k+x-b.2.2.2)).set i (Zar (Zbj l f i) k-x+b.2.2.2):=by
 rw[Zwq hb hx hi hj hij hin hjn]
 congr 1
 ·congr 1;omega
 ·omega
theorem ZpW (g:Net)(r f:List Int):Zaa Tryz.prog 32 [nD g,Zab r,Zab f] (.bool (ZhW g r f)):=by
 rcases hf:Zcl g r with _|_
 ·have hv:Zaa Tryz.prog 38 [nD g,Zab r] (.bool false):=hf▸ZsU g r;refine kE Tryz.func32 ?_;intro hat B X w0;have hl:=ZaU 2 hat rfl;rw[uD]at hl;refine kw1 kO kc0 (kc1 hv) ?_
  all_goals (refine Zaj ?_;simp[ZhW,hf])
 ·have hv:Zaa Tryz.prog 38 [nD g,Zab r] (.bool true):=hf▸ZsU g r;have hr:rkOk g r=true:=by simp only[Zcl,uK]at hf;exact hf.1
  obtain⟨hg,hlen,hat0⟩:=rkOk_in hr;obtain⟨h1,h2,h3,h4⟩:=ZeL hg;obtain⟨m,l⟩:=g;dsimp only at h1 h2 h3 h4 hlen hat0;obtain⟨n,rfl⟩:∃n:Nat,m=n:=⟨m.toNat,by omega⟩;by_cases hfl:f.length=l.length
  ·refine kE Tryz.func32 ?_;intro hat B X w0;refine kw1 (kow (Nat.beq 25) (b:=true)) (kc1 hfl) (kc1 hv) ?_;refine Zaf (λ(k:Nat)=>k<=l.length/\Zes (Zgj r l f) k=true) (λ k=>[(1, .d (Zab r)),(2, .d (Zab f)),(3, .ptr 3 0 0 0),(7, .ref 25 1 0 n n),(8, .int k)]) (λ k=>[(3, .cells [.int n, .d (ZbN l)]),(25, .row 1 ((ZcC l f n k).map D.int))]) (λ k=>l.length-k) 0 ?_ ?_ ?_
   ·exact⟨uI _,rfl⟩
   ·exact kN (kc1 @ZA7) []
   ·rintro k ⟨hk,hinv⟩;have hbl:=Zlu l f n k;rcases uF k l.length with hlt|hge
    ·obtain⟨b,hb⟩:=Zad hlt;obtain⟨x,hx⟩:=Zad (show k<f.length by omega);have hbi:=h4 k b hb;obtain⟨i,hi⟩:∃i:Nat,b.1=i:=⟨b.1.toNat,by omega⟩;obtain⟨j,hj⟩:∃j:Nat,b.2.1=j:=⟨b.2.1.toNat,by omega⟩;obtain⟨e1,e2,e3⟩:=hat0 b.1 (by omega) (by omega);obtain⟨f1,f2,f3⟩:=hat0 b.2.1 (by omega) (by omega);have gi:(ZcC l f n k)[i]? =_:=ZjZ (by omega);have gj:(ZcC l f n k)[j]? =_:=ZjZ (by omega);have bi:=Zqe (v:=i) (show k<=l.length by omega) (λ k b hb=>by have:=h4 k b hb;omega) hinv;have bj:=Zqe (v:=j) (show k<=l.length by omega) (λ k b hb=>by have:=h4 k b hb;omega) hinv;have hst:=ZAx (n:=n) hb hx hi hj (by omega) (by omega) (by omega);rw[hi]at e1 e2 e3;rw[hj]at f1 f2 f3;rw[uL]at e1 f1;have hij:j≠i:=by omega
     have gs:((List.map D.int (ZcC l f n k)).set j (D.sc (.int .i64 (Zar (Zbj l f j) k+x-b.2.2.2))))[i]? =some (D.int (Zar (Zbj l f i) k)):=by
      rw[kD hij,uJ,gi];rfl
     refine kw kO (kc8 hb hx hi hj e1 f1 gi (kc4 gj gs hbl @yI.{0})) kc0 ?_
     repeat' first|exact True.intro|refine Bn.mk ?_ ?_|intro hc
     all_goals try
      refine Zaj ?_;rw[ZhW,Zxm hlt (by simp only[Zgj,hb,hx,gap,hi,hj,qA];omega)];simp
     all_goals
      refine⟨k+1,?_,eL [] _ _ (by refine⟨?_,?_⟩<;>(repeat' first|exact fmn|refine fmc ⟨(by first|rfl|(simp(disch:=omega) only[go_sem,simprocAttr,inL,hst,yP];first|done|omega|(congr 1;done))),?_⟩);done),?_⟩
      ·exact⟨by omega,ZuR hinv (by simp only[Zgj,hb,hx,gap,hi,hj,uE];omega)⟩
      ·omega
    ·have:k=l.length:=by omega
     subst this;refine kw1 kO (kc1 hbl) kc0 ?_;refine Zaf (λ(u:Nat)=>u<=n/\∀(j:Nat) y,j<u->(ZcC l f n l.length)[j]? =some y->decide (y≠0)=false) (λ u=>[(3, .ptr 3 0 0 0),(7, .ref 25 1 0 n n),(10, .int u)]) (λ u=>[(3, .cells [.int n, .d (ZbN l)]),(25, .row 1 ((ZcC l f n l.length).map D.int))]) (λ u=>n-u) 0 ?_ ?_ ?_
     ·exact⟨uI _,λ j y h=>by omega⟩
     ·exact kN kc0 []
     ·rintro u ⟨hu,hinv2⟩;rcases uF u n with hult|huge
      ·have gu:(ZcC l f n l.length)[u]? =_:=ZjZ hult;refine kw kO (kc2 gu hbl) kc0 ?_
       repeat' first|exact True.intro|refine Bn.mk ?_ ?_|intro hc
       ·refine Zaj ?_;rw[ZhW,uL,Zb8 gu (by simpa using hc)];simp
       ·refine⟨u+1,?_,eL [] _ _ (by refine⟨?_,?_⟩<;>(repeat' first|exact fmn|refine fmc ⟨(by first|rfl|(simp(disch:=omega) only[go_sem,simprocAttr,inL];first|done|omega|(congr 1;done))),?_⟩);done),?_⟩
        ·exact⟨by omega,Zbe hinv2 gu (by simpa using hc)⟩
        ·omega
      ·refine kw1 kO kc0 kc0 ?_;refine Zaj ?_;rw[ZhW,uL,hf,Zcq (λ j y hj=>hinv2 j y (by omega)),hinv];simp[hfl]
  ·refine kE Tryz.func32 ?_;intro hat B X w0;have hl:=ZaU 2 hat rfl;rw[uD]at hl;refine kw1 kO kc0 (kc1 hv) ?_
   all_goals (refine Zaj ?_;simp[ZhW,hfl])
end Go.Proofs.YtjjbhjnpeenbkaaGreatDoor.Sx
namespace Go.Proofs.YtjjbhjnpeenbkaaGreatDoor.Sx
open Go Go.PS Go.Proofs
set_option maxRecDepth 100000
attribute [local irreducible] Zac wpG Zaa Zag
abbrev pD (n:Nat)(l:List Bd)(f:List Int):D:= .pt [.int n,ZbN l,Zab f]
def ZbY (n:Nat):List Int:=(List.range n).map λ u:Nat=>(u:Int)
def Za0 (g:Nat->Int)(n k:Nat):List Int:=(List.range n).map λ u=>if u<k then g u else 0
theorem Zdh (g:Nat->Int)(n k:Nat):(Za0 g n k).length=n:=by simp[Za0]
theorem ZeS {g:Nat->Int}{n k u:Nat}(h:u<n):(Za0 g n k)[u]? =some (if u<k then g u else 0):=by simp[Za0,h]
theorem ZhK (g:Nat->Int)(n:Nat):(Za0 g n 0).map D.int=List.replicate n (D.int 0):=by
 rw[kV];refine⟨by simp[Za0],λ b hb=>?_⟩;simp only[Za0,gL,uN]at hb;obtain⟨u,_,rfl⟩:=hb;simp
theorem ZhE {g:Nat->Int}{n k:Nat}(h:k<n):(Za0 g n k).set k (g k)=Za0 g n (k+1):=by
 refine qI λ u=>?_
 by_cases hu:u<n
 ·rw[ZeS hu,qD,ZeS hu,Zdh];by_cases c:k=u
  ·subst c;rw[if_pos rfl,if_pos h,if_pos (by omega)]
  ·rw[if_neg c];by_cases c2:u<k
   ·rw[if_pos c2,if_pos (by omega)]
   ·rw[if_neg c2,if_neg (by omega)]
 ·rw[uP (by rw[yI,Zdh];omega),uP (by rw[Zdh];omega)]
theorem Zhz (g:Nat->Int)(n:Nat):Za0 g n n=(List.range n).map g:=by
 rw[Za0];refine yJ λ u hu=>?_
 rw[if_pos (yA.1 hu)]
theorem Zov (n:Nat)(l:List Bd)(f:List Int)(hn:n<=2048):Zag Tryz.prog 161 [.d (pD n l f)] [(2000, .dead)] (.ref 2000 1 0 n n) [(2000, .row 1 ((ZbY n).map D.int))]:=by
 refine kM Tryz.func161 ?_;intro B X w0;refine kw1 (kow (Nat.beq 10) (b:=true)) kc0 kc0 ?_;refine Zaf (λ(k:Nat)=>k<=n) (λ k=>[(3, .ref 10 1 0 n n),(12, .int n),(13, .int k)]) (λ k=>[(10, .row 1 ((Za0 (λ u=>(u:Int)) n k).map D.int))]) (λ k=>n-k) 0 ?_ ?_ ?_
 ·exact uI _
 ·exact kN (kc1 @ZhK) []
 ·intro k hk;have hlen:=Zdh (λ u=>(u:Int)) n k;rcases uF k n with hlt|hge
  ·have hg:(Za0 (λ u=>(u:Int)) n k)[k]? =_:=ZeS hlt;have hst:=ZhE (g:=λ u=>(u:Int)) hlt;refine kw1 kO (kc2 hg hlen) kc0 ?_;refine⟨k+1,?_,kN (kc2 @hst.symm @yP.{0,0}) [],?_⟩
   ·omega
   ·omega
  ·refine kw1 kP kc0 kc0 ?_;have:k=n:=by omega
   subst this;refine kR kc0 [(2000,10)] [(2, .ref 2000 1 0 _ _)] [(2000, .row 1 _)] ?_;refine ZaX ?_;exact⟨rfl,uM.2 ⟨Znm (by rw[Zhz];rfl),yB _⟩⟩
def ZdC (l:List Bd)(v:Int)(j:Nat):Int:=match l[j]? with
 |some b=>(if b.2.1=v then b.2.2.2 else 0)-(if b.1=v then b.2.2.2 else 0)
 |none=>0
def ZbC (l:List Bd)(n k:Nat):List Int:=(List.range n).map λ v:Nat=>Zar (ZdC l v) k
theorem Zig (l:List Bd)(n k:Nat):(ZbC l n k).length=n:=by simp[ZbC]
theorem ZBn (l:List Bd)(n:Nat):(ZbC l n 0).map D.int=List.replicate n (D.int 0):=by
 rw[kV];refine⟨by simp[ZbC],λ b hb=>?_⟩;simp only[ZbC,gL,uN]at hb;obtain⟨u,_,rfl⟩:=hb;rfl
theorem Zj0 {l:List Bd}{n k u:Nat}(hu:u<n):(ZbC l n k)[u]? =some (Zar (ZdC l u) k):=by simp[ZbC,hu]
theorem ZzR {l:List Bd}{n k i j:Nat}{b:Bd}(hb:l[k]? =some b)(hi:b.1=i)(hj:b.2.1=j)(hij:i≠j)(hin:i<n)(hjn:j<n):
  ZbC l n (k+1)=((ZbC l n k).set j (Zar (ZdC l j) k+b.2.2.2)).set i (Zar (ZdC l i) k-b.2.2.2):=by
 refine qI λ u=>?_
 by_cases hu:u<n
 ·rw[Zj0 hu,sumI_succ,qD,qD,yI,Zig,Zj0 hu];have e:ZdC l u k=(if b.2.1=(u:Int)then b.2.2.2 else 0)-(if b.1=(u:Int)then b.2.2.2 else 0):=by simp[ZdC,hb]
  rw[e,hi,hj];by_cases c1:i=u
  ·subst c1;rw[if_neg (by omega),if_pos rfl,if_pos rfl,if_pos hu];congr 1;omega
  ·by_cases c2:j=u
   ·subst c2;rw[if_pos rfl,if_neg (by omega),if_neg c1,if_pos rfl,if_pos hu];congr 1;omega
   ·rw[if_neg (by omega),if_neg (by omega),if_neg c1,if_neg c2];congr 1;omega
 ·rw[uP (by rw[Zig];omega),uP (by rw[yI,yI,Zig];omega)]
theorem Zn2 {l:List Bd}{v:Int}{m:Nat}(hm:m<=l.length)(h4:∀(k:Nat) b,l[k]? =some b->0<=b.2.2.2/\b.2.2.2<=8000):
  -(8000*(m:Int))<=Zar (ZdC l v) m/\Zar (ZdC l v) m<=8000*(m:Int):=by
 refine Zld (m:=m) (λ k hk=>?_) m (uH _);obtain⟨b,hb⟩:=Zad (show k<l.length by omega);have h5:=h4 k b hb;simp only[ZdC,hb];split<;>split<;>omega
theorem ZBH (n:Nat)(l:List Bd)(f:List Int)(hg:nOk (n,l)=true):Zag Tryz.prog 212 [.d (pD n l f)] [(2000, .dead)] (.ref 2000 1 0 n n) [(2000, .row 1 ((ZbC l n l.length).map D.int))]:=by
 obtain⟨h1,h2,h3,h4⟩:=ZeL hg;dsimp only at h1 h2 h3 h4;refine kM Tryz.func212 ?_;intro B X w0;refine kw1 (kow (Nat.beq 11) (b:=true)) kc0 kc0 ?_;refine Zaf (λ(k:Nat)=>k<=l.length) (λ k=>[(3, .ref 11 1 0 n n),(16, .d (ZbN l)),(17, .int l.length),(18, .int k)]) (λ k=>[(11, .row 1 ((ZbC l n k).map D.int))]) (λ k=>l.length-k) 0 ?_ ?_ ?_
 ·exact uI _
 ·exact kN (kc1 @ZBn) []
 ·intro k hk;have hbl:=Zig l n k;rcases uF k l.length with hlt|hge
  ·obtain⟨b,hb⟩:=Zad hlt;have hbi:=h4 k b hb;obtain⟨i,hi⟩:∃i:Nat,b.1=i:=⟨b.1.toNat,by omega⟩;obtain⟨j,hj⟩:∃j:Nat,b.2.1=j:=⟨b.2.1.toNat,by omega⟩;have gi:(ZbC l n k)[i]? =_:=Zj0 (by omega);have gj:(ZbC l n k)[j]? =_:=Zj0 (by omega);have bi:=Zn2 (v:=i) (show k<=l.length by omega) (λ k b hb=>by have:=h4 k b hb;omega);have bj:=Zn2 (v:=j) (show k<=l.length by omega) (λ k b hb=>by have:=h4 k b hb;omega);have hst:=ZzR (n:=n) hb hi hj (by omega) (by omega) (by omega);have hij:j≠i:=by omega
   have gs:((List.map D.int (ZbC l n k)).set j (D.sc (.int .i64 (Zar (ZdC l j) k+b.2.2.2))))[i]? =some (D.int (Zar (ZdC l i) k)):=by
    rw[kD hij,uJ,gi];rfl
   refine kw1 kO (kc8 hb hi hj gi gj gs hbl @yI.{0}) kc0 ?_;refine⟨k+1,?_,kN (kc2 hst @yP.{0,0}) [],?_⟩
   ·omega
   ·omega
  ·refine kw1 kP kc0 kc0 ?_;have:k=l.length:=by omega
   subst this;refine kR kc0 [(2000,11)] [(2, .ref 2000 1 0 _ _)] [(2000, .row 1 _)] ?_;refine ZaX ?_;exact⟨rfl,uM.2 ⟨rfl,yB _⟩⟩
end Go.Proofs.YtjjbhjnpeenbkaaGreatDoor.Sx
namespace Go.Proofs.YtjjbhjnpeenbkaaGreatDoor.Sx
open Go Go.PS Go.Proofs
set_option maxRecDepth 100000
attribute [local irreducible] Zac wpG Zaa
def mirB (b:Bd):Bd:=(b.2.1,b.1,b.2.2.1,b.2.2.2)
def Zpx (g:Net):Net:=(g.1,g.2.map mirB)
def upA (b:Bd)(s:List Int×Bool):List Int×Bool:=
 if at0 s.1 b.2.1<at0 s.1 b.1+b.2.2.1 then(s.1.set b.2.1.toNat (at0 s.1 b.1+b.2.2.1),true)else s
def upB (b:Bd)(t:Bool)(s:List Int×Bool):List Int×Bool:=
 if t&&decide (at0 s.1 b.1<at0 s.1 b.2.1-b.2.2.1)then(s.1.set b.1.toNat (at0 s.1 b.2.1-b.2.2.1),true)else s
def Ziz (f:List Int)(k:Nat):Bool:=match f[k]? with
 |some x=>decide (0<x)
 |none=>false
def ZjW (l:List Bd)(f:List Int)(k:Nat)(s:List Int×Bool):List Int×Bool:=match l[k]? with
 |some b=>upB b (Ziz f k) (upA b s)
 |none=>s
def Zb9 (l:List Bd)(f r:List Int):Nat->List Int×Bool
 |0=>(r,false)
 |k+1=>ZjW l f k (Zb9 l f r k)
def ZbT (l:List Bd)(f:List Int)(n:Nat):Nat->List Int
 |0=>List.replicate n 0
 |k+1=>(Zb9 l f (ZbT l f n k) l.length).1
def Zfv (l:List Bd)(f:List Int)(n:Nat):Nat->Option Nat
 |0=>none
 |k+1=>match Zfv l f n k with|some i=>some i|none=>if(Zb9 l f (ZbT l f n k) l.length).2 then none else some k
def ZhI (g:Net)(f:List Int):List Int×Bool:=match Zfv g.2 f g.1.toNat (g.1.toNat+2)with
 |some k=>(ZbT g.2 f g.1.toNat (k+1),true)
 |none=>([],false)
theorem ZAE (b:Bd)(s:List Int×Bool):(upA b s).1.length=s.1.length:=by
 unfold upA;split<;>simp
theorem ZwH (b:Bd)(t:Bool)(s:List Int×Bool):(upB b t s).1.length=s.1.length:=by
 unfold upB;split<;>simp
theorem ZCx (l:List Bd)(f:List Int)(k:Nat)(s:List Int×Bool):(ZjW l f k s).1.length=s.1.length:=by
 unfold ZjW;split
 ·rw[ZwH,ZAE]
 ·rfl
theorem ZlL (l:List Bd)(f r:List Int):∀k,(Zb9 l f r k).1.length=r.length
 |0=>rfl
 |k+1=>by rw[Zb9,ZCx,ZlL l f r k]
theorem Zsv (l:List Bd)(f:List Int)(n:Nat):∀k,(ZbT l f n k).length=n
 |0=>by simp[ZbT]
 |k+1=>by rw[ZbT,ZlL,Zsv l f n k]
def Zb4 (r:List Int)(m:Int):Prop:=∀v:Int,-m<=at0 r v/\at0 r v<=m
theorem ZhB (r:List Int)(i:Nat)(x v:Int)(hv:0<=v):at0 (r.set i x) v=if v=i/\i<r.length then x else at0 r v:=by
 simp only[at0,qD];by_cases h:i=v.toNat
 ·subst h;by_cases h2:v.toNat<r.length
  ·rw[if_pos rfl,if_pos h2,if_pos (by omega)];rfl
  ·rw[if_pos rfl,if_neg h2,if_neg (by omega),uP (by omega)]
 ·rw[if_neg h,if_neg (by omega)]
theorem ZCC (r:List Int)(v:Int)(hv:v<0):at0 r v=at0 r 0:=by
 rw[at0,at0,show v.toNat=0 by omega];rfl
theorem Znu {r:List Int}{m:Int}{i:Nat}{x:Int}(h:Zb4 r m)(h1:-m<=x)(h2:x<=m):Zb4 (r.set i x) m:=by
 have key:∀v:Int,0<=v->-m<=at0 (r.set i x) v/\at0 (r.set i x) v<=m:=by
  intro v hv;rw[ZhB _ _ _ _ hv];split
  ·exact⟨h1,h2⟩
  ·exact h v
 intro v;rcases(show v<0\/0<=v by omega)with hv|hv
 ·rw[ZCC _ _ hv];exact key 0 (qZ _)
 ·exact key v hv
theorem Zfy {r:List Int}{m m':Int}(h:Zb4 r m)(hm:m<=m'):Zb4 r m':=λ v=>by have:=h v;omega
def Znb (l:List Bd):Prop:=∀(k:Nat) b,l[k]? =some b->-16777216<=b.2.2.1/\b.2.2.1<=16777216
theorem ZCs {b:Bd}{s:List Int×Bool}{m:Int}(h:Zb4 s.1 m)(hb:-16777216<=b.2.2.1/\b.2.2.1<=16777216):Zb4 (upA b s).1 (m+16777216):=by
 unfold upA;split
 ·have h1:=h b.1;exact Znu (Zfy h (by omega)) (by omega) (by omega)
 ·exact Zfy h (by omega)
theorem Zx8 {b:Bd}{t:Bool}{s:List Int×Bool}{m:Int}(h:Zb4 s.1 m)(hb:-16777216<=b.2.2.1/\b.2.2.1<=16777216):Zb4 (upB b t s).1 (m+16777216):=by
 unfold upB;split
 ·have h1:=h b.2.1;exact Znu (Zfy h (by omega)) (by omega) (by omega)
 ·exact Zfy h (by omega)
theorem ZlI {l:List Bd}{f r:List Int}{m:Int}(hl:Znb l)(h:Zb4 r m):∀k:Nat,Zb4 (Zb9 l f r k).1 (m+33554432*k)
 |0=>Zfy h (by omega)
 |k+1=>by
  have ih:=ZlI (f:=f) hl h k;rw[Zb9,ZjW];cases hb:l[k]? with
  |none=>exact Zfy ih (by omega)
  |some b=>
   have:=hl k b hb;exact Zfy (Zx8 (ZCs ih this) this) (by omega)
theorem ZsN {l:List Bd}{f:List Int}{n:Nat}(hl:Znb l)(hm:l.length<=4096):∀k:Nat,Zb4 (ZbT l f n k) (137438953472*k)
 |0=>by
  intro v;have:at0 (ZbT l f n 0) v=0:=by
   simp only[at0,ZbT,gK];split<;>rfl
  rw[this];omega
 |k+1=>by
  rw[ZbT];exact Zfy (ZlI hl (ZsN hl hm k) l.length) (by omega)
theorem ZA1 {l:List Bd}{f:List Int}{n m k:Nat}(hk:k<m)(h1:Zfv l f n k=none)(h2:(Zb9 l f (ZbT l f n k) l.length).2=false):Zfv l f n m=some k:=by
 induction m with
 |zero=>omega
 |succ m ih=>
  rcases qS.1 hk with h|rfl
  ·simp[Zfv,ih h]
  ·simp[Zfv,h1,h2]
theorem ZBU {l:List Bd}{f:List Int}{n k:Nat}(h1:Zfv l f n k=none)(h2:(Zb9 l f (ZbT l f n k) l.length).2=true):Zfv l f n (k+1)=none:=by simp[Zfv,h1,h2]
theorem ZaK {r:List Int}{i:Nat}(h:i<r.length):r[i]? =some (at0 r i):=by
 obtain⟨x,hx⟩:=Zad h;rw[at0,uL,hx];rfl
theorem ZB9 {b:Bd}{t:Bool}{s:List Int×Bool}{i j:Nat}(hi:b.1=i)(hj:b.2.1=j)(hij:i≠j)(hjl:j<s.1.length)(h:at0 s.1 j<at0 s.1 i+b.2.2.1):
  upB b t (upA b s)=(s.1.set j (at0 s.1 i+b.2.2.1),true):=by
 have e:upA b s=(s.1.set j (at0 s.1 i+b.2.2.1),true):=by rw[upA,hi,hj,if_pos h,uL]
 have e1:=ZhB s.1 j (at0 s.1 i+b.2.2.1) i (by omega);rw[if_neg (by omega)]at e1;have e2:=ZhB s.1 j (at0 s.1 i+b.2.2.1) j (by omega);rw[if_pos ⟨rfl,hjl⟩]at e2;rw[e,upB,hi,hj];dsimp only;rw[e1,e2,if_neg];simp only[uK,uE];omega
theorem Zxk {b:Bd}{t:Bool}{s:List Int×Bool}{i j:Nat}(hi:b.1=i)(hj:b.2.1=j)(h:¬at0 s.1 j<at0 s.1 i+b.2.2.1)(ht:t=true)(h2:at0 s.1 i<at0 s.1 j-b.2.2.1):
  upB b t (upA b s)=(s.1.set i (at0 s.1 j-b.2.2.1),true):=by
 have e:upA b s=s:=by rw[upA,hi,hj,if_neg h]
 rw[e,upB,hi,hj,if_pos (by simp[ht,h2]),uL]
theorem ZoS {b:Bd}{t:Bool}{s:List Int×Bool}{i j:Nat}(hi:b.1=i)(hj:b.2.1=j)(h:¬at0 s.1 j<at0 s.1 i+b.2.2.1)(h2:t=false\/¬at0 s.1 i<at0 s.1 j-b.2.2.1):
  upB b t (upA b s)=s:=by
 have e:upA b s=s:=by rw[upA,hi,hj,if_neg h]
 rw[e,upB,hi,hj,if_neg];rcases h2 with h2|h2<;>simp[h2]
theorem Zr1 (g:Net)(f:List Int)(hg:nOk g=true)(hfl:f.length<=1000000):Zaa Tryz.prog 134 [nD g,Zab f] (.tup [Zab (ZhI g f).1, .bool (ZhI g f).2]):=by
 obtain⟨h1,h2,h3,h4⟩:=ZeL hg;obtain⟨m,l⟩:=g;dsimp only at h1 h2 h3 h4;obtain⟨n,rfl⟩:∃n:Nat,m=n:=⟨m.toNat,by omega⟩;have hlo:Znb l:=λ k b hb=>by have:=h4 k b hb;omega
 refine kE Tryz.func134 ?_;intro hat B X w0;refine kw1 (kow (Nat.beq 13) (b:=true)) kc0 kc0 ?_;refine Zaf (λ(k:Nat)=>k<=n+2/\Zfv l f n k=none) (λ k=>[(1, .d (Zab f)),(2, .ptr 2 0 0 0),(6, .ref 13 1 0 n n),(7, .int k)]) (λ k=>[(2, .cells [.int n, .d (ZbN l)]),(13, .row 1 ((ZbT l f n k).map D.int))]) (λ k=>n+2-k) 0 ?_ ?_ ?_
 ·exact⟨by omega,rfl⟩
 ·exact kN (kc2 @ZbT.eq_1 @zP.{0,0}) []
 ·rintro k ⟨hk,hstill⟩;have hwi:=ZsN (f:=f) (n:=n) hlo h3 k;rcases uF k (n+2)with hlt|hge
  ·refine kw1 kO kc0 kc0 ?_;refine Zaf (λ(i:Nat)=>i<=l.length) (λ i=>[(1, .d (Zab f)),(2, .ptr 2 0 0 0),(6, .ref 13 1 0 n n),(7, .int k),(8, .bool (Zb9 l f (ZbT l f n k) i).2),(9, .int i)]) (λ i=>[(2, .cells [.int n, .d (ZbN l)]),(13, .row 1 ((Zb9 l f (ZbT l f n k) i).1.map D.int))]) (λ i=>l.length-i) 0 ?_ ?_ ?_
   ·exact uI _
   ·exact kN (kc1 @Zb9.eq_1) []
   ·intro i hi;have hlen:(Zb9 l f (ZbT l f n k) i).1.length=n:=by rw[ZlL,Zsv]
    have hw:=Zfy (m':=562949953421312) (ZlI (f:=f) hlo hwi i) (by omega);rcases uF i l.length with hil|hig
    ·obtain⟨b,hb⟩:=Zad hil;have hbi:=h4 i b hb;have hru:Zb9 l f (ZbT l f n k) (i+1)=upB b (Ziz f i) (upA b (Zb9 l f (ZbT l f n k) i)):=by simp only[Zb9,ZjW,hb]
     generalize Zb9 l f (ZbT l f n k) i=s at hlen hw hru|-;obtain⟨p,hp⟩:∃p:Nat,b.1=p:=⟨b.1.toNat,by omega⟩;obtain⟨q,hq⟩:∃q:Nat,b.2.1=q:=⟨b.2.1.toNat,by omega⟩;have gp:=ZaK (r:=s.1) (i:=p) (by omega);have gq:=ZaK (r:=s.1) (i:=q) (by omega);have wp:=hw p;have wq:=hw q;have hpq:q≠p:=by omega
     have t1:∀x,((List.map D.int s.1).set q x)[p]? =some (D.int (at0 s.1 p)):=λ x=>by
      rw[kD hpq,uJ,gp];rfl
     have t2:∀x,((List.map D.int s.1).set q x)[q]? =some x:=λ x=>jS (by rw[uD];omega)
     rcases gT (at0 s.1 q<at0 s.1 p+b.2.2.1)with c1|c1
     ·rw[ZB9 hp hq (by omega) (by omega) c1]at hru;rcases uF i f.length with hif|hif
      ·obtain⟨x,hx⟩:=Zad hif;refine kw kO (kc8 hb hx hp hq gp gq t1 (kc3 t2 hlen @yI.{0})) kc0 ?_
       repeat' first|exact True.intro|refine Bn.mk ?_ ?_|intro hc
       all_goals
        refine⟨i+1,?_,kN (kc2 hru @yP.{0,0}) [],?_⟩
        ·omega
        ·omega
      ·refine kw1 kO (kc8 hb hp hq gp gq t1 t2 (kc2 hlen @yI.{0})) kc0 ?_
       all_goals
        refine⟨i+1,?_,kN (kc2 hru @yP.{0,0}) [],?_⟩
        ·omega
        ·omega
     ·rcases uF i f.length with hif|hif
      ·obtain⟨x,hx⟩:=Zad hif;have ht:Ziz f i=decide (0<x):=by rw[Ziz,hx]
       rw[ht]at hru;rcases gT (0<x/\at0 s.1 p<at0 s.1 q-b.2.2.1)with c2|c2
       ·rw[Zxk hp hq c1 (by simp[c2.1]) c2.2]at hru;refine kw1 kO (kc8 hb hx hp hq gp gq t1 (kc3 t2 hlen @yI.{0})) kc0 ?_
        all_goals
         refine⟨i+1,?_,kN (kc2 hru @yP.{0,0}) [],?_⟩
         ·omega
         ·omega
       ·rw[ZoS hp hq c1 (by rw[qA];omega)]at hru;refine kw kO (kc8 hb hx hp hq gp gq t1 (kc3 t2 hlen @yI.{0})) kc0 ?_
        repeat' first|exact True.intro|refine Bn.mk ?_ ?_|intro hc
        all_goals
         refine⟨i+1,?_,kN (kc2 hru @yP.{0,0}) [],?_⟩
         ·omega
         ·omega
      ·have ht:Ziz f i=false:=by rw[Ziz,uP hif]
       rw[ht,ZoS hp hq c1 (.inl rfl)]at hru;refine kw1 kO (kc8 hb hp hq gp gq t1 t2 (kc2 hlen @yI.{0})) kc0 ?_
       all_goals
        refine⟨i+1,?_,kN (kc2 hru @yP.{0,0}) [],?_⟩
        ·omega
        ·omega
    ·have:i=l.length:=by omega
     subst this;rcases hch:(Zb9 l f (ZbT l f n k) l.length).2 with _|_
     ·refine kw1 kO kc0 kc0 ?_;have e:ZhI (n,l) f=(ZbT l f n (k+1),true):=by
       rw[ZhI,uL,ZA1 hlt hstill hch]
      rw[e,ZbT];exact⟨_,rfl,ZcK (o:=13) rfl rfl (by simp[hlen]) (uG (by simp[hlen])),Zaj rfl,trivial⟩
     ·refine kw1 kO kc0 kc0 ?_;refine⟨k+1,?_,kN (kc1 @ZbT.eq_1) [],?_⟩
      ·exact⟨by omega,ZBU hstill hch⟩
      ·omega
  ·refine kw1 kO kc0 kc0 ?_;have:k=n+2:=by omega
   subst this;have e:ZhI (n,l) f=([],false):=by rw[ZhI,uL,hstill]
   rw[e];exact⟨_,rfl,Zdd rfl,Zaj rfl,trivial⟩
def topN (a b:List Int):Nat->Int
 |0=>0
 |k+1=>max (max (topN a b k) (at0 a k)) (at0 b k)
def halfAt (a b:List Int)(t:Int)(v:Nat):Int:=(at0 a v+t-at0 b v)/2
def Zbl (h:Nat->Int):Nat->Int
 |0=>0
 |k+1=>if k=0\/h k<Zbl h k then h k else Zbl h k
def midF (a b:List Int):List Int:=
 let t:=topN a b a.length
 (List.range a.length).map λ v=>halfAt a b t v-Zbl (halfAt a b t) a.length
def fromTo (a:List Int)(m:Int):Prop:=∀v:Nat,0<=at0 a v/\at0 a v<=m
theorem ZnD {a b:List Int}{m:Int}(ha:fromTo a m)(hb:fromTo b m):∀k,0<=topN a b k/\topN a b k<=m
 |0=>by have:=ha 0;simp only[topN];omega
 |k+1=>by have:=ZnD ha hb k;have:=ha k;have:=hb k;simp only[topN];omega
theorem ZCU {a b:List Int}{j k:Nat}(h:j<=k):topN a b j<=topN a b k:=by
 induction k with
 |zero=>rw[show j=0 by omega];exact qZ _
 |succ k ih=>
  rcases uF j (k+1)with h1|h1
  ·have:=ih (by omega);simp only[topN];omega
  ·rw[show j=k+1 by omega];exact qZ _
theorem ZoU {a b:List Int}{j k:Nat}(h:j<k):at0 a j<=topN a b k/\at0 b j<=topN a b k:=by
 have h1:=ZCU (a:=a) (b:=b) (show j+1<=k by omega);simp only[topN]at h1;omega
theorem Zmo {a b:List Int}{t m:Int}{v:Nat}(ha:fromTo a m)(hb:fromTo b m)(ht:0<=t/\t<=m):-m<=halfAt a b t v/\halfAt a b t v<=m:=by
 have:=ha v;have:=hb v;rw[halfAt];omega
theorem Zsj {h:Nat->Int}{m:Int}(hm:0<=m)(hh:∀v,-m<=h v/\h v<=m):∀k,-m<=Zbl h k/\Zbl h k<=m
 |0=>by simp only[Zbl];omega
 |k+1=>by
  have:=Zsj hm hh k;have:=hh k;simp only[Zbl];split<;>omega
def ZhC (h:Nat->Int)(k:Nat):List Int:=(List.range k).map h
def Zd9 (h g:Nat->Int)(n k:Nat):List Int:=(List.range n).map λ u=>if u<k then g u else h u
theorem ZkR (h g:Nat->Int)(n k:Nat):(Zd9 h g n k).length=n:=by simp[Zd9]
theorem Zm0 {h g:Nat->Int}{n k u:Nat}(hu:u<n):(Zd9 h g n k)[u]? =some (if u<k then g u else h u):=by simp[Zd9,hu]
theorem ZBm (h g:Nat->Int)(n:Nat):Zd9 h g n 0=ZhC h n:=by simp[Zd9,ZhC]
theorem ZyW (h g:Nat->Int)(n:Nat):Zd9 h g n n=ZhC g n:=by
 simp only[Zd9,ZhC];refine yJ λ u hu=>?_
 rw[if_pos (yA.1 hu)]
theorem ZxP {h g:Nat->Int}{n k:Nat}(hk:k<n):(Zd9 h g n k).set k (g k)=Zd9 h g n (k+1):=by
 refine qI λ u=>?_
 by_cases hu:u<n
 ·rw[Zm0 hu,qD,Zm0 hu,ZkR];by_cases c:k=u
  ·subst c;rw[if_pos rfl,if_pos hk,if_pos (by omega)]
  ·rw[if_neg c];by_cases c2:u<k
   ·rw[if_pos c2,if_pos (by omega)]
   ·rw[if_neg c2,if_neg (by omega)]
 ·rw[uP (by rw[yI,ZkR];omega),uP (by rw[ZkR];omega)]
end Go.Proofs.YtjjbhjnpeenbkaaGreatDoor.Sx
