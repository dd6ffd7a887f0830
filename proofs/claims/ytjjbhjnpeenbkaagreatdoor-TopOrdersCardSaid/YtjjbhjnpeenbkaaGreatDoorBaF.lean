/- Barycenters: layers, sweeps, rounds, by the program and by the reference. -/
import Derived.Test.YtjjbhjnpeenbkaaGreatDoorBaS4
import Derived.Test.YtjjbhjnpeenbkaaGreatDoorStE
import Derived.Test.YtjjbhjnpeenbkaaGreatDoorD
import Derived.Test.YtjjbhjnpeenbkaaGreatDoorTypes
set_option linter.unusedSimpArgs false
set_option linter.unusedVariables false
set_option maxHeartbeats 16000000
namespace Go.Proofs.YtjjbhjnpeenbkaaGreatDoor
open Go Go.PS Go.Proofs
open Go.Stb
set_option maxRecDepth 100000
attribute [local irreducible] Zab wpG Zaa Zaf
theorem Ztm (a:Lv)(h:Zay a=true):Zaa Tryz.prog 165 [lvD a] (lvD a):=by
 obtain⟨s1,s2,s3⟩:=Zhs h;obtain⟨t1,t2⟩:=Zcv h;have hca:=ZkX a.2.2.1 (by omega);have hl1:∀(k:Nat) x,a.2.1[k]? =some x->Zaa Tryz.prog 214 [Zac x] (Zac x):=λ k x hx=>Zhd x (by have:=ZcV (uA hx);omega)
 have hl2:∀(k:Nat) x,a.2.2.2[k]? =some x->Zaa Tryz.prog 214 [Zac x] (Zac x):=λ k x hx=>Zhd x (by have:=s3 x (uA hx);omega)
 obtain⟨n,ls,ar,cs⟩:=a;dsimp only at*;refine kE Tryz.func165 ?_;intro hat B X w0;refine kw1 kO kc0 (kc1 hca) ?_;refine Zau _ (Zcr 3 1 901 1 rfl rfl rfl) ?_;refine Zai (λ(k:Nat)=>k<=ls.length) (λ k=>[(1, .ptr 1 0 0 0),(2, .ptr 2 0 0 0),(3, .ptr 3 0 0 0),(15, .d (Zae ls)),(16, .int ls.length),(17, .int k)]) (λ k=>[(1, .cells [.int n, .d (Zae ls), .d (Zak ar), .d (Zae cs)]),(2, .cells [.int 0, .nilS, .nilS, .nilS]),(3, .cells [.int n, .ref 901 1 0 k k, .d (Zak ar), .nilS]),(901, .row 1 ((ls.take k).map Zac))]) (λ k=>ls.length-k) 0 ?_ ?_ ?_
 ·exact uJ _
 ·exact kN (kc2 @yY.{0} @yT.{0,0}) []
 ·intro k hk;have hlk:(ls.take k).length=k:=by rw[uS];omega
  have htk:((ls.take k).map Zac).take k=(ls.take k).map Zac:=uD (by rw[uE,hlk];exact uH _);rcases uF k ls.length with hlt|hge
  ·obtain⟨x,hx⟩:=Zad hlt;have hc1:=hl1 k x hx;have e1:=ZaD hx
   repeat' first|refine ZbD rfl ?_|refine Za1 ?_|refine wR ?_|(refine rc (hc1) rfl ?_ ?_;(· first|rfl|simp(disch:=omega) only[go_sem,simprocAttr,hx,hlk,htk,roomy]))|(refine ZbF rfl rfl (λ hc=>?_) (λ hc=>?_)<;>try simp only[hcL]at hc)|(refine ZbC _ rfl rfl (λ hc=>?_) (λ hc=>?_)<;>(try simp only[hcL]at hc)<;>try omega)|simp(disch:=omega) only[go_sem,simprocAttr,hx,hlk,htk,roomy]|exact λ d hd=>by rw[uR.1 hd];rfl|apply And.intro|omega|decide+kernel
   refine⟨k+1,?_,kN (kc5 e1 htk @yB.{0,0} @uX.{0,0} @yT.{0,0}) [(901,26)],?_⟩
   ·omega
   ·omega
  ·have:k=ls.length:=by omega
   subst this
   try dsimp only
   rw[yI];refine kw1 kO kc0 kc0 ?_;refine Zau _ (Zcr 3 3 902 1 rfl rfl rfl) ?_;refine Zai (λ(k:Nat)=>k<=cs.length) (λ k=>[(2, .ptr 2 0 0 0),(3, .ptr 3 0 0 0),(30, .d (Zae cs)),(31, .int cs.length),(32, .int k)]) (λ k=>[(2, .cells [.int 0, .nilS, .nilS, .nilS]),(3, .cells [.int n, .ref 901 1 0 ls.length ls.length, .d (Zak ar), .ref 902 1 0 k k]),(901, .row 1 (ls.map Zac)),(902, .row 1 ((cs.take k).map Zac))]) (λ k=>cs.length-k) 0 ?_ ?_ ?_
   ·exact uJ _
   ·exact kN (kc2 @yY.{0} @yT.{0,0}) []
   ·intro k hk;have hlk:(cs.take k).length=k:=by rw[uS];omega
    have htk:((cs.take k).map Zac).take k=(cs.take k).map Zac:=uD (by rw[uE,hlk];exact uH _);rcases uF k cs.length with hlt|hge
    ·obtain⟨x,hx⟩:=Zad hlt;have hc1:=hl2 k x hx;have e1:=ZaD hx
     repeat' first|refine ZbD rfl ?_|refine Za1 ?_|refine wR ?_|(refine rc (hc1) rfl ?_ ?_;(· first|rfl|simp(disch:=omega) only[go_sem,simprocAttr,hx,hlk,htk,roomy]))|(refine ZbF rfl rfl (λ hc=>?_) (λ hc=>?_)<;>try simp only[hcL]at hc)|(refine ZbC _ rfl rfl (λ hc=>?_) (λ hc=>?_)<;>(try simp only[hcL]at hc)<;>try omega)|simp(disch:=omega) only[go_sem,simprocAttr,hx,hlk,htk,roomy]|exact λ d hd=>by rw[uR.1 hd];rfl|apply And.intro|omega|decide+kernel
     refine⟨k+1,?_,kN (kc5 e1 htk @yB.{0,0} @uX.{0,0} @yT.{0,0}) [(902,41)],?_⟩
     ·omega
     ·omega
    ·have:k=cs.length:=by omega
     subst this
     try dsimp only
     rw[yI];refine kw1 kO kc0 kc0 ?_;refine⟨_,_,_,_,rfl,?_⟩;simp(disch:=omega) only[go_sem,simprocAttr,toD,uE,uH,qS];rw[Zat,Zat]
theorem Zzc (a:Lv)(hw:wide a)(hv:Zay a=true)(har:a.2.2.1.length<=700):Zaa Tryz.prog 166 [lvD a] (lvD (swB a)):=by
 obtain⟨t1,t2⟩:=Zcv hv;have hkd:=Zk7 (Kin.refl hv hw);have hku:=λ k hk=>ZmM (hkd (a.2.1.length-1) (uH _)) k hk
 have h1:∀k,k+1<a.2.1.length->Zaa Tryz.prog 215 [lvD (Zdi a k), .int (k+1:Nat), .int k] (lvD (Zdi a (k+1))):=λ k hk=>by
  have hK:=hkd k (by omega);exact ZpK (Zdi a k) (k+1) k hK.wd hK.ok (by rw[hK.arcs];exact har) (by rw[hK.len];omega) (by rw[hK.len];omega)
 have h2:∀k,k+1<a.2.1.length->Zaa Tryz.prog 215 [lvD (upB (Zdi a (a.2.1.length-1)) a.2.1.length k), .int (a.2.1.length-2-k:Nat), .int (a.2.1.length-1-k:Nat)] (lvD (upB (Zdi a (a.2.1.length-1)) a.2.1.length (k+1))):=λ k hk=>by
  have hK:=hku k (by omega);exact ZpK _ (a.2.1.length-2-k) (a.2.1.length-1-k) hK.wd hK.ok (by rw[hK.arcs];exact har) (by rw[hK.len];omega) (by rw[hK.len];omega)
 have hl1:∀k,k<=a.2.1.length-1->(Zdi a k).2.1.length=a.2.1.length:=λ k hk=>(hkd k hk).len
 rw[swB];have hd0:Zdi a 0=a:=rfl;have hu0:upB (Zdi a (a.2.1.length-1)) a.2.1.length 0=Zdi a (a.2.1.length-1):=rfl;clear hkd hku;obtain⟨N,hN⟩:∃N,N=a.2.1.length:=⟨_,rfl⟩;rw[<-hN]at h1 h2 hl1 hu0 t1|-;generalize upB (Zdi a (N-1)) N=U at*;generalize Zdi a=W at*;rw[<-hd0]at hN;rw[show a=W 0 from hd0.symm];clear hd0;refine kE Tryz.func166 ?_;intro hat B X w0;refine kw1 kO kc0 kc0 ?_;refine Zai (λ(k:Nat)=>k<=N-1) (λ k=>[(1, .ptr 1 0 0 0),(2, .ptr 2 0 0 0),(3, .int (k+1:Nat))]) (λ k=>[(1, .cells [.int (W k).1, .d (Zae (W k).2.1), .d (Zak (W k).2.2.1), .d (Zae (W k).2.2.2)]),(2, .cells [.int 0, .nilS, .nilS, .nilS])]) (λ k=>N-k) 0 ?_ ?_ ?_
 ·exact uJ _
 ·exact kN (kc2 @qO @gP) []
 ·intro k hk;have hl:=hl1 k hk;have e1:((k+1:Nat):Int)-1=(k:Int):=by omega
  have e2:((k+1:Nat):Int)+1=((k+1+1:Nat):Int):=by omega
  rcases uF (k+1) N with hlt|hge
  ·have c1:=h1 k hlt;refine kw1 kO (kc3 hl e1 e2) (kc1 c1) ?_;refine⟨k+1,?_,kN kc0 [],?_⟩
   ·omega
   ·omega
  ·have:k=N-1:=by omega
   subst this;rw[<-hu0]at hl|-;clear hu0 h1;refine kw1 kO (kc1 hl) kc0 ?_;refine Zai (λ(k:Nat)=>k<=N-1) (λ k=>[(1, .ptr 1 0 0 0),(2, .ptr 2 0 0 0),(4, .int ((N:Int)-2-k))]) (λ k=>[(1, .cells [.int (U k).1, .d (Zae (U k).2.1), .d (Zak (U k).2.2.1), .d (Zae (U k).2.2.2)]),(2, .cells [.int 0, .nilS, .nilS, .nilS])]) (λ k=>N-k) 0 ?_ ?_ ?_
   ·exact uJ _
   ·exact kN (kc2 @Int.natCast_zero @Int.sub_zero) []
   ·intro k hk;rcases uF (k+1) N with hlt|hge
    ·have c1:=h2 k hlt;have e3:(N:Int)-2-k=((N-2-k:Nat):Int):=by omega
     have e4:((N-2-k:Nat):Int)+1=((N-1-k:Nat):Int):=by omega
     have e5:((N-2-k:Nat):Int)-1=(N:Int)-2-((k+1:Nat):Int):=by omega
     rw[e3];refine kw1 kO (kc2 e4 e5) (kc1 c1) ?_;refine⟨k+1,?_,kN kc0 [],?_⟩
     ·omega
     ·omega
    ·have:k=N-1:=by omega
     subst this;refine kw1 kO kc0 kc0 ?_;refine⟨_,_,_,_,rfl,?_⟩;simp(disch:=omega) only[go_sem,simprocAttr,toD]
theorem Zxe (r:Int):(if(100:Int)<(if r<0 then 0 else r)then(100:Int)else(if r<0 then 0 else r))=(Zfv r:Int):=by
 rw[Zfv];split<;>split<;>omega
theorem Zso (a:Lv)(r:Int)(hw:wide a)(har:a.2.2.1.length<=700):Zaa Tryz.prog 103 [lvD a, .int r] (.tup [lvD (Zjj a r).1, .int (Zjj a r).2]):=by
 have h1:=Zgt a hw;rw[Zjj];rcases hv:Zay a with _|_<;>rw[hv]at h1
 ·rw[if_neg (by decide)];refine kE Tryz.func103 ?_;intro hat B X w0;refine kw1 kO kc0 (kc1 h1) ?_;refine⟨_,rfl,⟨_,_,_,_,rfl,?_⟩,Zah rfl,trivial⟩;simp(disch:=omega) only[go_sem,simprocAttr,toD];rfl
 ·rw[if_pos rfl];obtain⟨t1,t2⟩:=Zcv hv;have h2:=Ztm a hv;have hk:=ZlO hv hw;have h3:∀k,Zaa Tryz.prog 166 [lvD (Zc9 a k)] (lvD (Zc9 a (k+1))):=λ k=>Zzc _ (hk k).wd (hk k).ok (by rw[(hk k).arcs];exact har)
  have h4:∀k,Zaa Tryz.prog 105 [lvD (Zc9 a k)] (.int (Za2 (Zc9 a k))):=λ k=>Znb _ (hk k).wd (by rw[(hk k).len];omega)
  have hbs:∀k,Zb5 a (k+1)=if Za2 (Zc9 a (k+1))<Za2 (Zb5 a k)then Zc9 a (k+1)else Zb5 a k:=λ _=>rfl
  have hb0:Zb5 a 0=Zc9 a 0:=rfl;have hn0:Zc9 a 0=a:=rfl;have hre:=Zxe r;have hr100:Zfv r<=100:=by rw[Zfv];omega
  dsimp only;generalize Zfv r=R at*;rw[<-hn0]at h1 h2;rw[show a=Zc9 a 0 from rfl];rw[show Zb5 (Zc9 a 0)=Zb5 a from rfl];clear hk hn0;generalize Zc9 a=W at*;generalize Zb5 a=Bs at*;refine kE Tryz.func103 ?_;intro hat B X w0;have h40:=h4 0;refine kw1 kO (kc1 hre) (kc3 h1 h2 h40) ?_;refine Zai (λ(k:Nat)=>k<=R) (λ k=>[(2, .ptr 2 0 0 0),(4, .ptr 4 0 0 0),(6, .ptr 6 0 0 0),(7, .int (Za2 (Bs k))),(20, .int R),(21, .int k)]) (λ k=>[(2, .cells [.int (W k).1, .d (Zae (W k).2.1), .d (Zak (W k).2.2.1), .d (Zae (W k).2.2.2)]),(4, .cells [.int 0, .nilS, .nilS, .nilS]),(6, .cells [.int (Bs k).1, .d (Zae (Bs k).2.1), .d (Zak (Bs k).2.2.1), .d (Zae (Bs k).2.2.2)])]) (λ k=>R-k) 0 ?_ ?_ ?_
  ·exact uJ _
  ·exact kN (kc1 hb0) []
  ·intro k hk;rcases uF k R with hlt|hge
   ·have c1:=h3 k;have c2:=h4 (k+1);have e1:=hbs k;by_cases c:Za2 (W (k+1))<Za2 (Bs k)
    ·rw[if_pos c]at e1;refine kw1 kO (kc1 c) (kc2 c1 c2) ?_;refine⟨k+1,?_,kN (kc1 e1) [],?_⟩
     ·omega
     ·omega
    ·rw[if_neg c]at e1;refine kw1 kO (kc1 c) (kc2 c1 c2) ?_;refine⟨k+1,?_,kN (kc1 e1) [],?_⟩
     ·omega
     ·omega
   ·have:k=R:=by omega
    subst this;refine kw1 kO kc0 kc0 ?_;refine⟨_,rfl,⟨_,_,_,_,rfl,?_⟩,Zah rfl,trivial⟩;simp(disch:=omega) only[go_sem,simprocAttr,toD]
end Go.Proofs.YtjjbhjnpeenbkaaGreatDoor
namespace Go.Proofs.YtjjbhjnpeenbkaaGreatDoor
open Go Go.PS Go.Proofs
set_option maxRecDepth 100000
attribute [local irreducible] Zab wpG Zaa Zaf
theorem ZrV (a:Lv)(i:Nat)(u v:Nat):Zde a [] (Zaq a.2.1 i) 0 i 0 u v=0:=by
 rw[Zde,ZhM];split<;>rfl
theorem ZvU (a:Lv)(i:Nat)(hw:wide a)(hv:Zay a=true)(hil:i<a.2.1.length):
  Zaa Tryz.prog 109 [lvD a, .int i] (Zae (orM a i)):=by
 obtain⟨y,hy⟩:=Zad hil;obtain⟨t1,t2⟩:=Zcv hv;have hyl:=ZcV (uA hy);have hacc:=Zi6 a [] (Zaq a.2.1 i) (w:=0) (by decide) i;have haccS:∀t u v,Zde a [] (Zaq a.2.1 i) 0 i (t+1) u v=Zde a [] (Zaq a.2.1 i) 0 i t u v+Zag (ZaQ a i (Zd6 i t)) u v:=λ _ _ _=>rfl
 have haccZ:=ZrV a i;have hMsq:∀t,Sq (ZaQ a i (Zd6 i t)):=λ t=>Zi0 a i (Zd6 i t)
 have hMlen:∀t,(ZaQ a i (Zd6 i t)).length=0\/(ZaQ a i (Zd6 i t)).length=y.length:=λ t=>by
  rw[ZaQ];split
  ·right
   simp[Zcw,Za6,Zcg,hy]
  ·left;rfl
 have hMs:∀t,Zaa Tryz.prog 177 [lvD a, .int i, .int (Zd6 i t)] (Zae (ZaQ a i (Zd6 i t))):=λ t=>Zm3 a i (Zd6 i t) hw
 rw[orM,stM];rw[Zc8 hy]at*;generalize Zde a [] y 0 i=A at*;obtain⟨Q,hQ⟩:∃Q:Nat->List (List Int),∀t,ZaQ a i (Zd6 i t)=Q t:=⟨_,λ _=>rfl⟩;simp only[hQ]at*;obtain⟨N,hN⟩:∃N,N=y.length:=⟨_,rfl⟩;have hN5:N<=512:=by omega
 obtain⟨n,ls,ar,cs⟩:=a;dsimp only at*;refine kE Tryz.func109 ?_;intro hat B X w0;refine kw1 kO (kc2 hy hN.symm) kc0 ?_;refine Zau _ (Zh6 1 19 1 N rfl (λ i hi=>by simp(disch:=omega) only[go_sem,simprocAttr,ZiA,ZdC]) (by decide) (by decide)) ?_;have hiN:∀(k:Nat) (x y:List D),k<N->(if k<N then x else y)=x:=λ k x y h=>if_pos h
 have hz:∀u,List.replicate N (D.int 0)=(ZaX (A 0 u) N).map D.int:=λ u=>by
  rw[Zqq];congr 1;exact Zf2 λ v _=>(haccZ u v).symm
 refine Zee (λ(u:Nat)=>u<=N) (λ u=>[(1, .int i),(2, .ptr 2 0 0 0),(5, .ref 19 1 0 N N),(21, .int N),(22, .int u)]) (λ u=>[⟨1,19,1,N,λ k=>if k<u then(ZaX (A 0 k) N).map D.int else[]⟩]) (λ u=>[(2, .cells [.int n, .d (Zae ls), .d (Zak ar), .d (Zae cs)])]) (λ u=>N-u) 0 ?_ ?_ ?_
 ·exact uJ _
 ·refine kF (kc1 hN.symm) [] [] ?_;exact kT0 (kc1 @zL)
 ·intro u hu;rcases uF u N with hlt|hge
  ·have hzu:=hz u;have hnu:¬u<u:=by omega
   have hrl:=ZdJ (A 0 u) N;have hsu:∀i,i≠u->((i<u+1)=(i<u)):=λ i h=>propext (by omega)
   refine Zau _ (ZeP _ _ [2,19] 19 u 900 1 1 N (by first|rfl|(simp(disch:=omega) only[go_sem,simprocAttr,hnu];done)|(simp(disch:=omega) only[go_sem,simprocAttr,hnu];rfl)) (by first|(simp(disch:=omega) only[go_sem,simprocAttr,hnu];done)|(simp(disch:=omega) only[go_sem,simprocAttr,hnu];rfl)) (by first|(simp(disch:=omega) only[go_sem,simprocAttr,hnu];done)|(simp(disch:=omega) only[go_sem,simprocAttr,hnu];rfl)) (λ i hi hne=>by simp(disch:=omega) only[go_sem,simprocAttr,hne,hnu];(repeat' split)<;>exact .ref _ _ _ _ _ ⟨by simp(disch:=omega) only[go_sem,simprocAttr,hne,hnu],by simp(disch:=omega) only[go_sem,simprocAttr,hne,hnu]⟩) (by(repeat' first|refine ZeG ?_|exact ZeH (ids:=[2,19]) rfl rfl (uU rfl)|refine ZeF ?_|refine ZeI ?_|refine ZeD ?_|refine ZeJ ?_|refine ZeK ?_|refine ZeE (by dsimp only;omega) (by dsimp only;omega) (by omega) (by omega) (uU rfl) ?_);done) rfl rfl rfl) ?_;refine kw1 kO (kc2 hN.symm hnu) kc0 ?_;refine⟨u+1,?_,kF kc0 [(fid 1 u,29)] [] ?_,?_⟩
   ·omega
   ·exact kT1 (kc6 hzu hrl hnu hsu @Cm @uE.{0,0}) u
   ·omega
  ·have:N=u:=by omega
   subst this
   try dsimp only
   obtain⟨F,hF⟩:∃F:List D,F=[D.int ((i:Int)-1),D.int ((i:Int)+1)]:=⟨_,rfl⟩;have hFl:F.length=2:=by rw[hF];rfl
   have hFx:∀t,t<2->F[t]? =some (D.int (Zd6 i t)):=λ t ht=>by
    rw[hF];rcases t with _|_|t
    ·rfl
    ·rfl
    ·omega
   refine kw1 kO kc0 kc0 ?_;refine Zee (λ(t:Nat)=>t<=2) (λ t=>[(1, .int i),(2, .ptr 2 0 0 0),(5, .ref 19 1 0 N N),(36, .d (.sl F)),(37, .int 2),(38, .int t)]) (λ t=>[⟨1,19,1,N,λ k=>(ZaX (A t k) N).map D.int⟩]) (λ t=>[(2, .cells [.int n, .d (Zae ls), .d (Zak ar), .d (Zae cs)])]) (λ t=>2-t) 0 ?_ ?_ ?_
   ·exact uJ _
   ·refine kF (kc1 hF) [] [] ?_
    repeat' first|exact fmn|refine fmc ⟨?_,?_⟩
    all_goals refine⟨_,(by first|rfl|(simp(disch:=omega) only[go_sem,simprocAttr,hiN];done)|(simp(disch:=omega) only[go_sem,simprocAttr,hiN];rfl)),λ i hi=>?_⟩
    all_goals dsimp only at hi|-
    all_goals try (exfalso;omega)
    all_goals try (simp(disch:=omega) only[go_sem,simprocAttr,hiN,Zdk,Zdo];done)
   ·intro t ht;rcases uF t 2 with hlt2|hge2
    ·have hx:=hFx t hlt2;have hM:=hMs t;have hsq:=hMsq t;have hml:=hMlen t;have hS:=haccS t;generalize hR:Q t=R at*;refine kw1 kO (kc1 hx) (kc1 hM) ?_;refine Zee (λ(c:Nat)=>c<=R.length) (λ c=>[(1, .int i),(2, .ptr 2 0 0 0),(5, .ref 19 1 0 N N),(36, .d (.sl F)),(37, .int 2),(38, .int t),(45, .d (Zae R)),(46, .int R.length),(47, .int c)]) (λ c=>[⟨1,19,1,N,λ k=>if k<c then(ZaX (A (t+1) k) N).map D.int else(ZaX (A t k) N).map D.int⟩]) (λ c=>[(2, .cells [.int n, .d (Zae ls), .d (Zak ar), .d (Zae cs)])]) (λ c=>R.length-c) 0 ?_ ?_ ?_
     ·exact uJ _
     ·refine kF (kc1 hFl) [] [] ?_;exact kT0 (kc1 @zL)
     ·intro c hc0;rcases uF c R.length with hlc|hgc
      ·have hRN:R.length=N:=by omega
       obtain⟨r,hr⟩:=Zad hlc;have hrl:=hsq.row r (uA hr);have hrN:r.length=N:=by omega
       have hnu:¬c<c:=by omega
       refine kw1 kO (kc2 hr hrN) kc0 ?_;refine Zee (λ(b:Nat)=>b<=N) (λ b=>[(1, .int i),(2, .ptr 2 0 0 0),(5, .ref 19 1 0 N N),(9, .int c),(36, .d (.sl F)),(37, .int 2),(38, .int t),(45, .d (Zae R)),(46, .int R.length),(47, .int c),(52, .d (Zac r)),(53, .int N),(54, .int b)]) (λ b=>[⟨1,19,1,N,λ k=>if k<c then(ZaX (A (t+1) k) N).map D.int else if k=c then(Zci (A t c) (A (t+1) c) N b).map D.int else(ZaX (A t k) N).map D.int⟩]) (λ b=>[(2, .cells [.int n, .d (Zae ls), .d (Zak ar), .d (Zae cs)])]) (λ b=>N-b) 0 ?_ ?_ ?_
       ·exact uJ _
       ·refine kF (kc1 hrN) [] [] ?_;exact kT1 (kc2 hnu @Zpq) c
       ·intro b hb;have hfl2:=Ziv (A t c) (A (t+1) c) N b;rcases uF b N with hlb|hgb
        ·obtain⟨p,hp,_,hpv,g1,g2⟩:=hsq.get hlc (show b<R.length by omega);rw[hr,uZ]at hp;rw[<-hp]at hpv;have hcell:=hS c b;have ha:=hacc t c b;have hg:(Zci (A t c) (A (t+1) c) N b)[b]? =some (A t c b):=Zpo hlb;have hst:(Zci (A t c) (A (t+1) c) N b).set b (A (t+1) c b)=Zci (A t c) (A (t+1) c) N (b+1):=Zpp hlb;rw[hcell]at hst;refine Zau _ (ZeP _ _ [2,19] 19 c 900 1 1 N (by first|rfl|(simp(disch:=omega) only[go_sem,simprocAttr,hnu,hfl2];done)|(simp(disch:=omega) only[go_sem,simprocAttr,hnu,hfl2];rfl)) (by first|(simp(disch:=omega) only[go_sem,simprocAttr,hnu,hfl2];done)|(simp(disch:=omega) only[go_sem,simprocAttr,hnu,hfl2];rfl)) (by first|(simp(disch:=omega) only[go_sem,simprocAttr,hnu,hfl2];done)|(simp(disch:=omega) only[go_sem,simprocAttr,hnu,hfl2];rfl)) (λ i hi hne=>by simp(disch:=omega) only[go_sem,simprocAttr,hne,hnu,hfl2];(repeat' split)<;>exact .ref _ _ _ _ _ ⟨by simp(disch:=omega) only[go_sem,simprocAttr,hne,hnu,hfl2],by simp(disch:=omega) only[go_sem,simprocAttr,hne,hnu,hfl2]⟩) (by(repeat' first|refine ZeG ?_|exact ZeH (ids:=[2,19]) rfl rfl (uU rfl)|refine ZeF ?_|refine ZeI ?_|refine ZeD ?_|refine ZeJ ?_|refine ZeK ?_|refine ZeE (by dsimp only;omega) (by dsimp only;omega) (by omega) (by omega) (uU rfl) ?_);done) rfl rfl rfl) ?_;refine kw1 kO (kc6 hr hrN hpv hg hfl2 hnu) kc0 ?_;refine⟨b+1,?_,kF kc0 [(fid 1 c,900)] [] ?_,?_⟩
         ·omega
         ·exact kT1 (kc6 @hst.symm @yR.{0,0} @yL.{0} @uE.{0,0} hfl2 hnu) c
         ·omega
        ·have:N=b:=by omega
         subst this;have hsu:∀i,i≠c->((i<c+1)=(i<c)):=λ i h=>propext (by omega)
         refine kw1 kO kc0 kc0 ?_;refine⟨c+1,?_,kF kc0 [] [] ?_,?_⟩
         ·omega
         ·exact kT1 (kc4 hnu hsu @Cm @Zpn) c
         ·omega
      ·have:R.length=c:=by omega
       subst this;refine kw1 kO kc0 kc0 ?_;rcases hml with hml|hml
       ·have hsame:∀k,ZaX (A (t+1) k) N=ZaX (A t k) N:=λ k=>Zf2 λ v _=>by
         rw[hS,Zag,Zhr (by omega)];simp[at0]
        refine⟨t+1,?_,kF kc0 [] [] ?_,?_⟩
        ·omega
        ·exact kT0 (kc3 hml @zL @hsame)
        ·omega
       ·have hRN:R.length=N:=by omega
        refine⟨t+1,?_,kF kc0 [] [] ?_,?_⟩
        ·omega
        ·repeat' first|exact fmn|refine fmc ⟨?_,?_⟩
         all_goals refine⟨_,(by first|rfl|(simp(disch:=omega) only[go_sem,simprocAttr,hRN,hiN];done)|(simp(disch:=omega) only[go_sem,simprocAttr,hRN,hiN];rfl)),λ i hi=>?_⟩
         all_goals dsimp only at hi|-
         all_goals try (exfalso;omega)
         all_goals try (simp(disch:=omega) only[go_sem,simprocAttr,hRN,hiN,Zdk,Zdo];done)
        ·omega
    ·have:t=2:=by omega
     subst this
     try dsimp only
     refine Zau _ (Zh7 _ _ _ _ ⟨ZbH rfl,ZbH rfl,(by(repeat' first|exact fmn|refine fmc ⟨⟨uU rfl,uU rfl,by dsimp only;omega⟩,?_⟩);done)⟩ rfl [2,19] rfl rfl rfl rfl) ?_;refine kw1 kO kc0 kc0 ?_;refine Zda (o:=19) rfl rfl (by simp) ?_;rw[uD (by simp),sqM,gN];rfl
open Go.Bd (sm Zan Part)
theorem Zwb (a:Lv)(h:Zay a=true):Zaa Tryz.prog 167 [lvD a] (lvD a):=by
 obtain⟨s1,s2,s3⟩:=Zhs h;obtain⟨t1,t2⟩:=Zcv h;have hca:=ZkX a.2.2.1 (by omega);have hl1:∀(k:Nat) x,a.2.1[k]? =some x->Zaa Tryz.prog 214 [Zac x] (Zac x):=λ k x hx=>Zhd x (by have:=ZcV (uA hx);omega)
 have hl2:∀(k:Nat) x,a.2.2.2[k]? =some x->Zaa Tryz.prog 214 [Zac x] (Zac x):=λ k x hx=>Zhd x (by have:=s3 x (uA hx);omega)
 obtain⟨n,ls,ar,cs⟩:=a;dsimp only at*;refine kE Tryz.func167 ?_;intro hat B X w0;refine kw1 kO kc0 (kc1 hca) ?_;refine Zau _ (Zcr 3 1 901 1 rfl rfl rfl) ?_;refine Zai (λ(k:Nat)=>k<=ls.length) (λ k=>[(1, .ptr 1 0 0 0),(2, .ptr 2 0 0 0),(3, .ptr 3 0 0 0),(15, .d (Zae ls)),(16, .int ls.length),(17, .int k)]) (λ k=>[(1, .cells [.int n, .d (Zae ls), .d (Zak ar), .d (Zae cs)]),(2, .cells [.int 0, .nilS, .nilS, .nilS]),(3, .cells [.int n, .ref 901 1 0 k k, .d (Zak ar), .nilS]),(901, .row 1 ((ls.take k).map Zac))]) (λ k=>ls.length-k) 0 ?_ ?_ ?_
 ·exact uJ _
 ·exact kN (kc2 @yY.{0} @yT.{0,0}) []
 ·intro k hk;have hlk:(ls.take k).length=k:=by rw[uS];omega
  have htk:((ls.take k).map Zac).take k=(ls.take k).map Zac:=uD (by rw[uE,hlk];exact uH _);rcases uF k ls.length with hlt|hge
  ·obtain⟨x,hx⟩:=Zad hlt;have hc1:=hl1 k x hx;have e1:=ZaD hx
   repeat' first|refine ZbD rfl ?_|refine Za1 ?_|refine wR ?_|(refine rc (hc1) rfl ?_ ?_;(· first|rfl|simp(disch:=omega) only[go_sem,simprocAttr,hx,hlk,htk,roomy]))|(refine ZbF rfl rfl (λ hc=>?_) (λ hc=>?_)<;>try simp only[hcL]at hc)|(refine ZbC _ rfl rfl (λ hc=>?_) (λ hc=>?_)<;>(try simp only[hcL]at hc)<;>try omega)|simp(disch:=omega) only[go_sem,simprocAttr,hx,hlk,htk,roomy]|exact λ d hd=>by rw[uR.1 hd];rfl|apply And.intro|omega|decide+kernel
   refine⟨k+1,?_,kN (kc5 e1 htk @yB.{0,0} @uX.{0,0} @yT.{0,0}) [(901,26)],?_⟩
   ·omega
   ·omega
  ·have:k=ls.length:=by omega
   subst this
   try dsimp only
   rw[yI];refine kw1 kO kc0 kc0 ?_;refine Zau _ (Zcr 3 3 902 1 rfl rfl rfl) ?_;refine Zai (λ(k:Nat)=>k<=cs.length) (λ k=>[(2, .ptr 2 0 0 0),(3, .ptr 3 0 0 0),(30, .d (Zae cs)),(31, .int cs.length),(32, .int k)]) (λ k=>[(2, .cells [.int 0, .nilS, .nilS, .nilS]),(3, .cells [.int n, .ref 901 1 0 ls.length ls.length, .d (Zak ar), .ref 902 1 0 k k]),(901, .row 1 (ls.map Zac)),(902, .row 1 ((cs.take k).map Zac))]) (λ k=>cs.length-k) 0 ?_ ?_ ?_
   ·exact uJ _
   ·exact kN (kc2 @yY.{0} @yT.{0,0}) []
   ·intro k hk;have hlk:(cs.take k).length=k:=by rw[uS];omega
    have htk:((cs.take k).map Zac).take k=(cs.take k).map Zac:=uD (by rw[uE,hlk];exact uH _);rcases uF k cs.length with hlt|hge
    ·obtain⟨x,hx⟩:=Zad hlt;have hc1:=hl2 k x hx;have e1:=ZaD hx
     repeat' first|refine ZbD rfl ?_|refine Za1 ?_|refine wR ?_|(refine rc (hc1) rfl ?_ ?_;(· first|rfl|simp(disch:=omega) only[go_sem,simprocAttr,hx,hlk,htk,roomy]))|(refine ZbF rfl rfl (λ hc=>?_) (λ hc=>?_)<;>try simp only[hcL]at hc)|(refine ZbC _ rfl rfl (λ hc=>?_) (λ hc=>?_)<;>(try simp only[hcL]at hc)<;>try omega)|simp(disch:=omega) only[go_sem,simprocAttr,hx,hlk,htk,roomy]|exact λ d hd=>by rw[uR.1 hd];rfl|apply And.intro|omega|decide+kernel
     refine⟨k+1,?_,kN (kc5 e1 htk @yB.{0,0} @uX.{0,0} @yT.{0,0}) [(902,41)],?_⟩
     ·omega
     ·omega
    ·have:k=cs.length:=by omega
     subst this
     try dsimp only
     rw[yI];refine kw1 kO kc0 kc0 ?_;refine⟨_,_,_,_,rfl,?_⟩;simp(disch:=omega) only[go_sem,simprocAttr,toD,uE,uH,qS];rw[Zat,Zat]
def Zdq (m:List (List Int))(A b:Nat):Int:=sm (λ j=>if A<j then Zag m A j else 0) b
def ZfX (m:List (List Int))(A:Nat):Int:=sm (λ A=>Zdq m A m.length) A
theorem Zpz {m:List (List Int)}(hs:Sq m)(A b:Nat):0<=Zdq m A b/\Zdq m A b<=1000000*b:=Go.Bd.sm_bounds b λ k _=>by
 have:=ZnP hs A k;split<;>omega
theorem ZvM {m:List (List Int)}(hs:Sq m)(h8:m.length<=8)(A:Nat):0<=ZfX m A/\ZfX m A<=8000000*A:=
 Go.Bd.sm_bounds A λ k _=>by
  have:=Zpz hs k m.length;omega
theorem ZpA (m:List (List Int))(A:Nat):∀n,A<n->Zdq m A n=sm (λ j=>Zag m A (A+1+j)) (n-1-A)
 |0,h=>by omega
 |n+1,h=>by
  have e:Zdq m A (n+1)=Zdq m A n+(if A<n then Zag m A n else 0):=rfl;rw[e];by_cases c:A<n
  ·rw[ZpA m A n c,if_pos c,show n+1-1-A=(n-1-A)+1 by omega];have e2:sm (λ j=>Zag m A (A+1+j)) (n-1-A+1)=sm (λ j=>Zag m A (A+1+j)) (n-1-A)+Zag m A (A+1+(n-1-A)):=rfl;rw[e2,show A+1+(n-1-A)=n by omega]
  ·have:n=A:=by omega
   subst this;have z:∀k,k<=n->Zdq m n k=0:=by
    intro k
    induction k with
    |zero=>intro _;rfl
    |succ k ih=>
     intro hk;have e3:Zdq m n (k+1)=Zdq m n k+(if n<k then Zag m n k else 0):=rfl;rw[e3,ih (by omega),if_neg (by omega)];rfl
   rw[z n (uH _),if_neg c,show n+1-1-n=0 by omega];rfl
theorem sm_congr {f g:Nat->Int}:∀n,(∀k,k<n->f k=g k)->sm f n=sm g n
 |0,_=>rfl
 |n+1,h=>by
  have e:∀f:Nat->Int,sm f (n+1)=sm f n+f n:=λ _=>rfl
  rw[e,e,sm_congr n λ k hk=>h k (by omega),h n (by omega)]
theorem ZvN (m:List (List Int)):ZfX m m.length=Zan (Zag m) (List.range m.length):=by
 rw[Go.Bd.sumC_range,ZfX];exact sm_congr _ λ A hA=>ZpA m A _ hA
theorem ZpL (l:List Int)(hl:l.length<=1000000):Zaa Tryz.prog 52 [Zac l] (.bool (decide (l.length<=8))):=by
 refine kE Tryz.func52 ?_;intro hat B X w0;refine kw1 kO kc0 kc0 ?_;exact Zaj (by rw[gK];simp only[uG];omega)
theorem Zny (a:Lv)(i:Nat)(hw:wide a)(hv:Zay a=true)(har:a.2.2.1.length<=700)(hil:i<a.2.1.length):
  Zaa Tryz.prog 53 [lvD a, .int i] (.tup [Zcj (Zb4 a i).1, .bool (Zb4 a i).2]):=by
 obtain⟨y,hy⟩:=Zad hil;have hyl:=ZcV (uA hy);obtain⟨t1,t2⟩:=Zcv hv;have h1:=ZpL y (by omega);rw[Zb4,Zc8 hy];by_cases h8:8<y.length
 ·rw[if_pos h8];rw[yC (by omega)]at h1;obtain⟨n,ls,ar,cs⟩:=a;dsimp only at*;refine kE Tryz.func53 ?_;intro hat B X w0;refine kw1 kO (kc1 hy) (kc1 h1) ?_;exact⟨_,rfl,ZcS rfl,Zaj rfl,trivial⟩
 ·rw[if_neg h8];rw[yM (by omega)]at h1;have h2:=ZvU a i hw hv hil;have hmok:=ZvZ (i:=i) har (by rw[Zc8 hy];exact h8);have h3:=Zm2 (orM a i);rw[if_pos hmok]at h3;obtain⟨hs,hm8⟩:=ZlT hmok;have hml:=ZpG a i;rw[Zc8 hy]at hml;have hns:=ZvN (orM a i);have hbb:0<=(Zck (orM a i)).2/\(Zck (orM a i)).2<=64000000:=by
   obtain⟨g1,g2,_⟩:=Go.Bd.best_bounds hs.small hm8 (ZiG _) (ZkK (orM a i));exact⟨g1,g2⟩
  rw[Ze9,Zc8 hy,<-hml,<-hns];have hni:=Zpz hs;have hnt:=ZvM hs hm8;have hIs:∀A b,Zdq (orM a i) A (b+1)=Zdq (orM a i) A b+(if A<b then Zag (orM a i) A b else 0):=λ _ _=>rfl
  have hTs:∀A,ZfX (orM a i) (A+1)=ZfX (orM a i) A+Zdq (orM a i) A (orM a i).length:=λ _=>rfl
  have hI0:∀A,Zdq (orM a i) A 0=0:=λ _=>rfl
  have hT0:ZfX (orM a i) 0=0:=rfl;generalize orM a i=m at*;generalize Zdq m=I at*;generalize ZfX m=T at*;generalize Zck m=BB at*;obtain⟨p,cost⟩:=BB;obtain⟨n,ls,ar,cs⟩:=a;dsimp only at*;refine kE Tryz.func53 ?_;intro hat B X w0;refine kw1 kO (kc1 hy) (kc2 h1 h2) ?_;refine Zai (λ(u:Nat)=>u<=m.length) (λ u=>[(6, .d (Zae m)),(7, .int (T u)),(24, .int m.length),(25, .int u)]) (λ u=>[]) (λ u=>m.length-u) 0 ?_ ?_ ?_
  ·exact uJ _
  ·exact kN (kc1 hT0) []
  ·intro u hu;have b1:=hnt u;rcases uF u m.length with hlt|hge
   ·have e1:=hTs u;refine kw1 kO kc0 kc0 ?_;refine Zai (λ(b:Nat)=>b<=m.length) (λ b=>[(6, .d (Zae m)),(7, .int (T u+I u b)),(8, .int u),(24, .int m.length),(25, .int u),(29, .int m.length),(30, .int b)]) (λ b=>[]) (λ b=>m.length-b) 0 ?_ ?_ ?_
    ·exact uJ _
    ·exact kN (kc2 hI0 @jU) []
    ·intro b hb;have b2:=hni u b;rcases uF b m.length with hlb|hgb
     ·obtain⟨q,hq,hql,hqv,g1,g2⟩:=hs.get hlt hlb;have e2:=hIs u b;by_cases c:u<b
      ·rw[if_pos c]at e2;refine kw1 kO (kc4 hq hqv hql c) kc0 ?_;refine⟨b+1,?_,kN (kc2 e2 @zA) [],?_⟩
       ·omega
       ·omega
      ·rw[if_neg c,jU]at e2;refine kw1 kO (kc1 c) kc0 ?_;refine⟨b+1,?_,kN (kc1 e2) [],?_⟩
       ·omega
       ·omega
     ·have:b=m.length:=by omega
      subst this;refine kw1 kO kc0 kc0 ?_;refine⟨u+1,?_,kN (kc1 e1) [],?_⟩
      ·omega
      ·omega
   ·have:u=m.length:=by omega
    subst this;refine kw1 kO kc0 (kc1 h3) ?_;refine⟨_,rfl,ZcS rfl,Zaj ?_,trivial⟩;rw[gK]
theorem Zsi (a:Lv)(i:Nat)(o:List Nat)(hw:wide a)(hv:Zay a=true)(hil:i<a.2.1.length)(ho:Part (Zaq a.2.1 i).length 0 o):
  Zaa Tryz.prog 168 [lvD a, .int i,Zcj o] (lvD (ZbO a i (ZaG (Zaq a.2.1 i) o))):=by
 obtain⟨y,hy⟩:=Zad hil;have hyl:=ZcV (uA hy);obtain⟨t1,t2⟩:=Zcv hv;rw[Zc8 hy]at ho|-;have hol:=ho.len;have hr:=Zm8 a i (ZaG y o) hw (by rw[Zl4];omega);rw[Zw7 hv hy ho]at hr;generalize ZbO a i (ZaG y o)=P at*;obtain⟨n',ls',ar',cs'⟩:=P;obtain⟨n,ls,ar,cs⟩:=a;dsimp only at*;refine kE Tryz.func168 ?_;intro hat B X w0;refine kw1 kO kc0 kc0 ?_;refine Zau _ (Zd5 7 901 1 rfl rfl) ?_;refine Zai (λ(k:Nat)=>k<=o.length) (λ k=>[(1, .int i),(3, .ptr 3 0 0 0),(6, .ptr 6 0 0 0),(7, .ref 901 1 0 k k),(12, .d (Zcj o)),(13, .int o.length),(14, .int k)]) (λ k=>[(3, .cells [.int n, .d (Zae ls), .d (Zak ar), .d (Zae cs)]),(6, .cells [.int 0, .nilS, .nilS, .nilS]),(901, .row 1 (((ZaG y o).take k).map D.int))]) (λ k=>o.length-k) 0 ?_ ?_ ?_
 ·exact uJ _
 ·exact kN (kc2 @yY.{0} @yT.{0,0}) []
 ·intro k hk;have hlk:((ZaG y o).take k).length=k:=by rw[uS,Zl4];omega
  have htk:(((ZaG y o).take k).map D.int).take k=((ZaG y o).take k).map D.int:=uD (by rw[uE,hlk];exact uH _);rcases uF k o.length with hlt|hge
  ·obtain⟨q,hq⟩:=Zad hlt;have hqn:=ho.lt q (uA hq);have hyq:y[q]? =some (yG y q):=by rw[yG,uL hqn];rfl
   have e1:(ZaG y o).take (k+1)=(ZaG y o).take k++[yG y q]:=ZaD (by rw[ZaG,uI,hq];rfl);generalize(ZaG y o).take k=R at*;refine kw1 kO (kc5 hy hq hyq hlk htk) kc0 ?_;refine⟨k+1,?_,kN (kc5 e1 htk @yB.{0,0} @uX.{0,0} @yT.{0,0}) [(901,28)],?_⟩
   ·omega
   ·omega
  ·have:k=o.length:=by omega
   subst this;have hfull:(ZaG y o).take o.length=ZaG y o:=uD (by rw[Zl4];exact uH _);rw[hfull]at hlk htk;rw[hfull];refine Zau _ (Zc2 901 1 ((ZaG y o).map D.int) rfl (ZcP _ rfl) (by decide)) ?_;refine kw1 kO (kc3 hlk htk @qS.{0}) (kc1 hr) ?_;refine⟨_,_,_,_,rfl,?_⟩;simp(disch:=omega) only[go_sem,simprocAttr,toD]
theorem ZrG (a:Lv)(i:Int)(hw:wide a)(har:a.2.2.1.length<=700):Zaa Tryz.prog 14 [lvD a, .int i] (.bool (ZjS a i)):=by
 have h1:=Zgt a hw;rw[ZjS];rcases hv:Zay a with _|_<;>rw[hv]at h1
 ·refine kE Tryz.func14 ?_;intro hat B X w0;refine kw1 kO kc0 (kc1 h1) ?_;exact Zaj rfl
 ·obtain⟨t1,t2⟩:=Zcv hv;by_cases hi:0<=i/\i<a.2.1.length
  ·rw[yM hi];obtain⟨i,rfl⟩:∃n:Nat,i=n:=⟨i.toNat,by omega⟩;rw[uQ];obtain⟨y,hy⟩:=Zad (l:=a.2.1) (k:=i) (by omega);have hyl:=ZcV (uA hy);have h2:=ZpL y (by omega);have h3:=Zny a i hw hv har (by omega);rw[Zb4]at h3;rw[Zc8 hy]at*;by_cases h8:8<y.length
   ·rw[yC (λ h=>h h8)];rw[yC (by omega)]at h2;obtain⟨n,ls,ar,cs⟩:=a;dsimp only at*;refine kE Tryz.func14 ?_;intro hat B X w0;refine kw1 kO (kc1 hy) (kc2 h1 h2) ?_
    all_goals exact Zaj rfl
   ·rw[yM h8];rw[yM (by omega)]at h2;rw[if_neg h8]at h3;generalize Ze9 a i=b at*;generalize Zck (orM a i)=BB at*;obtain⟨n,ls,ar,cs⟩:=a;dsimp only at*;refine kE Tryz.func14 ?_;intro hat B X w0;refine kw1 kO (kc1 hy) (kc3 h1 h2 h3) ?_;exact Zaj (by simp)
  ·rw[yC hi];obtain⟨n,ls,ar,cs⟩:=a;dsimp only at*;refine kE Tryz.func14 ?_;intro hat B X w0;refine kw kO kc0 (kc1 h1) ?_
   repeat' first|exact True.intro|refine Bn.mk ?_ ?_|intro hc
   all_goals exact Zaj rfl
theorem ZrN (a:Lv)(hw:wide a)(har:a.2.2.1.length<=700):Zaa Tryz.prog 104 [lvD a] (lvD (if Zay a then Zdu a else lv0)):=by
 have h1:=Zgt a hw;rcases hv:Zay a with _|_<;>rw[hv]at h1
 ·rw[if_neg (by decide)];refine kE Tryz.func104 ?_;intro hat B X w0;refine kw1 kO kc0 (kc1 h1) ?_;refine⟨_,_,_,_,rfl,?_⟩;simp(disch:=omega) only[go_sem,simprocAttr,toD];rfl
 ·rw[if_pos rfl];obtain⟨t1,t2⟩:=Zcv hv;have h2:=Zwb a hv;have hK0:=Kin.refl hv hw;have h3:∀(b:Lv) (i:Nat),Kin a b->i<a.2.1.length->Zaa Tryz.prog 53 [lvD b, .int i] (.tup [Zcj (Zb4 b i).1, .bool (Zb4 b i).2]):=λ b i h hi=>Zny b i h.wd h.ok (by rw[h.arcs];exact har) (by rw[h.len];exact hi)
  have h4:∀(b:Lv) (i:Nat),Kin a b->i<a.2.1.length->(Zb4 b i).2=true->Zaa Tryz.prog 168 [lvD b, .int i,Zcj (Zb4 b i).1] (lvD (Zep b i)):=λ b i h hi hb=>by
   have hy:=ZkM hb;have e:(Zb4 b i).1=(Zck (orM b i)).1:=by rw[Zb4,if_neg hy.1]
   rw[e];exact Zsi b i _ h.wd h.ok (by rw[h.len];exact hi) (ZlX b i)
  obtain⟨M,hM⟩:∃M,M=ZdI a 0:=⟨_,rfl⟩;rw[Zdu,<-hM];generalize hR:ZbX M a 0=R;obtain⟨L,hL⟩:∃L,L=a.2.1.length:=⟨_,rfl⟩;rw[<-hL]at h3 h4 t1;refine kE Tryz.func104 ?_;intro hat B X w0;refine kw1 kO kc0 (kc2 h1 h2) ?_;refine Zai (λ(q:Nat×Lv×Nat)=>match q with|(f,b,i)=>Kin a b/\ZdI b i<=f/\i<=L/\ZbX f b i=R) (λ(f,b,i)=>[(1, .ptr 1 0 0 0),(2, .ptr 2 0 0 0),(3, .int i)]) (λ(f,b,i)=>[(1, .cells [.int b.1, .d (Zae b.2.1), .d (Zak b.2.2.1), .d (Zae b.2.2.2)]),(2, .cells [.int 0, .nilS, .nilS, .nilS])]) (λ(f,b,i)=>f) (M,a,0) ?_ ?_ ?_
  ·exact⟨hK0,Nat.le_of_eq hM.symm,uJ _,hR⟩
  ·exact kN kc0 []
  ·rintro⟨f,b,i⟩ ⟨hK,hms,hi,hres⟩;dsimp only at hK hms hi hres|-;have hbl:b.2.1.length=L:=by rw[hK.len,hL]
   rcases uF i L with hlt|hge
   ·have hf:0<f:=by
     have:ZdI b i=(Za2 b).toNat*(b.2.1.length+1)+(b.2.1.length-i):=rfl;omega
    obtain⟨f,rfl⟩:∃g,f=g+1:=⟨f-1,by omega⟩;rw[ZbX,if_pos (by omega)]at hres;have c1:=h3 b i hK hlt;rcases hb:(Zb4 b i).2 with _|_
    ·rw[hb]at c1;rw[hb,if_neg (by decide)]at hres;have hs:=Zps (b:=b) (i:=i) (by omega);clear h3 h4;obtain⟨n,ls,ar,cs⟩:=b;dsimp only at hbl hb c1|-;refine kw1 kO (kc1 hbl) (kc1 c1) ?_;refine⟨(f,(n,ls,ar,cs),i+1),?_,kN (kc2 @qI @gP) [],?_⟩
     ·exact⟨hK,by dsimp only;omega,hlt,hres⟩
     ·exact Nat.lt_succ_self _
    ·have c2:=h4 b i hK hlt hb;rw[hb]at c1;rw[hb,if_pos rfl]at hres;have hs:=Zpr hK (by omega) (ZkM hb).2;have hK2:=ZkN hK (i:=i) (by omega);clear h3 h4;generalize Zep b i=P at*;obtain⟨n,ls,ar,cs⟩:=b;dsimp only at hbl hb c1 c2|-;refine kw1 kO (kc1 hbl) (kc2 c1 c2) ?_;refine⟨(f,P,0),?_,kN kc0 [],?_⟩
     ·exact⟨hK2,by dsimp only;omega,uJ _,hres⟩
     ·exact Nat.lt_succ_self _
   ·rw[Zqd (by omega)]at hres;subst hres;obtain⟨n,ls,ar,cs⟩:=b;dsimp only at hbl|-;refine kw1 kO (kc1 hbl) kc0 ?_;refine⟨_,_,_,_,rfl,?_⟩;simp(disch:=omega) only[go_sem,simprocAttr,toD]
def ZgS (a:Lv)(r:Int):Lv×Int×Int:=
 if Zay a=true/\0<=r/\r<=100 then(Zdu (Zb5 a r.toNat),Za2 (Zdu (Zb5 a r.toNat)),0)else(lv0,0,1)
theorem ZvO (a:Lv)(r:Int)(hw:wide a)(har:a.2.2.1.length<=700):Zaa Tryz.prog 50 [lvD a, .int r] (.tup [lvD (ZgS a r).1, .int (ZgS a r).2.1, .int (ZgS a r).2.2]):=by
 have h1:=Zgt a hw;rw[ZgS];by_cases hall:Zay a=true/\0<=r/\r<=100
 ·rw[if_pos hall];obtain⟨hv,hr0,hr1⟩:=hall;rw[hv]at h1;obtain⟨t1,t2⟩:=Zcv hv;have hb:=Zso a r hw har;have hrr:Zfv r=r.toNat:=by rw[Zfv];omega
  rw[Zjj,if_pos hv,hrr]at hb;have hK:=ZkS hv hw r.toNat;have h3:=ZrN (Zb5 a r.toNat) hK.wd (by rw[hK.arcs];exact har);rw[if_pos hK.ok]at h3;have hK2:=(ZwU hK.ok hK.wd).1;have h4:=Znb (Zdu (Zb5 a r.toNat)) hK2.wd (by rw[hK2.len,hK.len];omega);dsimp only at hb|-;generalize Zdu (Zb5 a r.toNat)=Q at*;generalize Zb5 a r.toNat=P at*;generalize Za2 P=tp at*;generalize Za2 Q=tq at*;clear hK hK2;obtain⟨n1,ls1,ar1,cs1⟩:=Q;obtain⟨n2,ls2,ar2,cs2⟩:=P;refine kE Tryz.func50 ?_;intro hat B X w0;refine kw1 kO kc0 (kc4 h1 hb h3 h4) ?_;refine⟨_,rfl,⟨_,_,_,_,rfl,?_⟩,Zah rfl,Zah rfl,trivial⟩;simp(disch:=omega) only[go_sem,simprocAttr,toD]
 ·rw[if_neg hall];rcases hv:Zay a with _|_<;>rw[hv]at h1
  ·refine kE Tryz.func50 ?_;intro hat B X w0;refine kw1 kO kc0 (kc1 h1) ?_;refine⟨_,rfl,⟨_,_,_,_,rfl,?_⟩,Zah rfl,Zah rfl,trivial⟩;simp(disch:=omega) only[go_sem,simprocAttr,toD];rfl
  ·have hn:¬(0<=r/\r<=100):=λ h=>hall ⟨hv,h⟩
   refine kE Tryz.func50 ?_;intro hat B X w0;refine kw kO kc0 (kc1 h1) ?_
   repeat' first|exact True.intro|refine Bn.mk ?_ ?_|intro hc
   all_goals
    refine⟨_,rfl,⟨_,_,_,_,rfl,?_⟩,Zah rfl,Zah rfl,trivial⟩;simp(disch:=omega) only[go_sem,simprocAttr,toD];rfl
end Go.Proofs.YtjjbhjnpeenbkaaGreatDoor
namespace Go.Proofs.YtjjbhjnpeenbkaaGreatDoor
open Go Go.PS Go.Proofs
set_option maxRecDepth 100000
attribute [local irreducible] Zab wpG Zaa Zaf
open Go.Bd (sm Zan Part)
end Go.Proofs.YtjjbhjnpeenbkaaGreatDoor
namespace Go.Proofs.YtjjbhjnpeenbkaaGreatDoor
open Go Go.PS Go.Proofs
set_option maxRecDepth 100000
attribute [local irreducible] Zab wpG Zaa Zaf
open Go.Bd (sm Zan Part)
theorem ZwT {a b:Lv}(h:Kin a b):Kin a (Zdu b)/\Za2 (Zdu b)<=Za2 b/\∀j,j<a.2.1.length->(Zb4 (Zdu b) j).2=false:=
 Zj2 _ b 0 h (uH _) (uJ _) (λ j hlj=>absurd hlj (zL j))
theorem ZuL {a b:Lv}(h:Kin a b){i:Nat}(hi:i<a.2.1.length)(h8:(Zaq a.2.1 i).length<=8)(hb:(Zb4 b i).2=false):ZjS b i=true:=by
 have hl:=h.llen i;rw[Zb4,if_neg (by omega)]at hb;have h1:=h.len;rw[ZjS,h.ok,yM (by omega),uQ,yM (by omega),show Ze9 b i=false from hb];rfl
end Go.Proofs.YtjjbhjnpeenbkaaGreatDoor
namespace Go.Proofs.YtjjbhjnpeenbkaaGreatDoor.Sx
open Go Go.PS Go.Proofs
set_option maxRecDepth 100000
attribute [local irreducible] Zab wpG Zaa
abbrev Bd :=Int×Int×Int×Int
abbrev bdD (b:Bd):D:= .ag [.int b.1, .int b.2.1, .int b.2.2.1, .int b.2.2.2]
abbrev ZdZ (l:List Bd):D:= .sl (l.map bdD)
abbrev Zac (l:List Int):D:= .sl (l.map D.int)
abbrev Net :=Int×List Bd
abbrev nD (n:Net):D:= .ag [.int n.1,ZdZ n.2]
theorem Zim (a b:Int):(if b<a then b else a)=min a b:=by omega
theorem ZjC (a b:Int):(if a<b then b else a)=max a b:=by omega
def bdIn (n:Int)(b:Bd):Bool:=decide (0<=b.1/\b.1<n/\0<=b.2.1/\b.2.1<n/\b.1≠b.2.1/\-16777216<=b.2.2.1/\b.2.2.1<=16777216/\0<=b.2.2.2/\b.2.2.2<=8000)
def nOk (n:Net):Bool:=decide (0<=n.1/\n.1<=2048/\n.2.length<=4096)&& !n.2.any (λ b=> !bdIn n.1 b)
theorem ZgN {n:Net}(h:nOk n=true):0<=n.1/\n.1<=2048/\n.2.length<=4096/\∀(k:Nat) b,n.2[k]? =some b->
  0<=b.1/\b.1<n.1/\0<=b.2.1/\b.2.1<n.1/\b.1≠b.2.1/\-16777216<=b.2.2.1/\b.2.2.1<=16777216/\0<=b.2.2.2/\b.2.2.2<=8000:=by
 simp only[nOk,uO,uG,yK,qU]at h;obtain⟨⟨h1,h2,h3⟩,h4⟩:=h;refine⟨h1,h2,h3,λ k b hk=>?_⟩;have:=h4 b (uA hk);simpa[bdIn]using this
theorem Ze7 (g:Net):Zaa Tryz.prog 159 [nD g] (.bool (nOk g)):=by
 obtain⟨n,l⟩:=g;refine kE Tryz.func159 ?_;intro hat B X w0;have hl:=Zb3 0 1 hat rfl rfl;rw[uE]at hl;refine kw kO kc0 kc0 ?_
 repeat' first|exact True.intro|refine Bn.mk ?_ ?_|intro hc
 all_goals try (refine Zaj ?_;simp[nOk];omega)
 refine Zai (λ(k:Nat)=>k<=l.length/\∀(j:Nat) y,j<k->l[j]? =some y->(!bdIn n y)=false) (λ k=>[(1, .ptr 1 0 0 0),(20, .d (ZdZ l)),(21, .int l.length),(22, .int k)]) (λ k=>[(1, .cells [.int n, .d (ZdZ l)])]) (λ k=>l.length-k) 0 ?_ ?_ ?_
 ·exact⟨uJ _,λ j y h=>by omega⟩
 ·exact kN kc0 []
 ·rintro k ⟨hk,hinv⟩;rcases uF k l.length with hlt|hge
  ·obtain⟨p,hp⟩:=Zad hlt;refine kw kO (kc3 hp @Zim @ZjC) kc0 ?_
   repeat' first|exact True.intro|refine Bn.mk ?_ ?_|intro hc
   all_goals try
    refine Zaj ?_;rw[nOk,ZcZ hp (by rw[bdIn,yK,qJ];omega)];simp
   ·refine⟨k+1,?_,eL [] _ _ (by refine⟨?_,?_⟩<;>(repeat' first|exact fmn|refine fmc ⟨(by first|rfl|(simp(disch:=omega) only[go_sem,simprocAttr,inL];first|done|omega|(congr 1;done))),?_⟩);done),?_⟩
    ·exact⟨by omega,ZbI hinv hp (by rw[bdIn,Ar,uG];omega)⟩
    ·omega
  ·refine kw1 kO kc0 kc0 ?_;refine Zaj ?_;rw[nOk,ZdB (λ j y hj=>hinv j y (by omega))];simp;omega
theorem ZiL (g:Net):Zaa Tryz.prog 133 [nD g] (.bool (nOk g)):=by
 obtain⟨n,l⟩:=g;refine kE Tryz.func133 ?_;intro hat B X w0;have hl:=Zb3 0 1 hat rfl rfl;rw[uE]at hl;refine kw kO kc0 kc0 ?_
 repeat' first|exact True.intro|refine Bn.mk ?_ ?_|intro hc
 all_goals try (refine Zaj ?_;simp[nOk];omega)
 refine Zai (λ(k:Nat)=>k<=l.length/\∀(j:Nat) y,j<k->l[j]? =some y->(!bdIn n y)=false) (λ k=>[(1, .ptr 1 0 0 0),(3, .int k)]) (λ k=>[(1, .cells [.int n, .d (ZdZ l)])]) (λ k=>l.length-k) 0 ?_ ?_ ?_
 ·exact⟨uJ _,λ j y h=>by omega⟩
 ·exact kN kc0 []
 ·rintro k ⟨hk,hinv⟩;rcases uF k l.length with hlt|hge
  ·obtain⟨p,hp⟩:=Zad hlt;refine kw kO (kc1 hp) kc0 ?_
   repeat' first|exact True.intro|refine Bn.mk ?_ ?_|intro hc
   all_goals try
    refine Zaj ?_;rw[nOk,ZcZ hp (by rw[bdIn,yK,qJ];omega)];simp
   ·refine⟨k+1,?_,eL [] _ _ (by refine⟨?_,?_⟩<;>(repeat' first|exact fmn|refine fmc ⟨(by first|rfl|(simp(disch:=omega) only[go_sem,simprocAttr,inL];first|done|omega|(congr 1;done))),?_⟩);done),?_⟩
    ·exact⟨by omega,ZbI hinv hp (by rw[bdIn,Ar,uG];omega)⟩
    ·omega
  ·refine kw1 kO kc0 kc0 ?_;refine Zaj ?_;rw[nOk,ZdB (λ j y hj=>hinv j y (by omega))];simp;omega
def Zj4 (x:Int):Bool:=decide (-34359738368<=x/\x<=34359738368)
def ZhC (g:Net)(r:List Int):Bool:=nOk g&&decide ((r.length:Int)=g.1)&& !r.any (λ x=> !Zj4 x)
def at0 (r:List Int)(v:Int):Int:=(r[v.toNat]?).getD 0
theorem Zen {r:List Int}{v:Int}(h1:0<=v)(h2:v<r.length):r[v.toNat]? =some (at0 r v):=by
 obtain⟨x,hx⟩:=Zad (show v.toNat<r.length by omega);rw[at0,hx];rfl
theorem Zm7 (g:Net)(r:List Int):Zaa Tryz.prog 85 [nD g,Zac r] (.bool (ZhC g r)):=by
 rcases hg:nOk g with _|_
 ·have hv:Zaa Tryz.prog 133 [nD g] (.bool false):=hg▸ZiL g;refine kE Tryz.func85 ?_;intro hat B X w0;refine kw1 kO kc0 (kc1 hv) ?_
  all_goals (refine Zaj ?_;simp[ZhC,hg])
 ·have hv:Zaa Tryz.prog 133 [nD g] (.bool true):=hg▸ZiL g;obtain⟨h1,h2,h3,h4⟩:=ZgN hg;refine kE Tryz.func85 ?_;intro hat B X w0;have hl:=Zbb 1 hat rfl;rw[uE]at hl;refine kw kO kc0 (kc1 hv) ?_
  repeat' first|exact True.intro|refine Bn.mk ?_ ?_|intro hc
  all_goals try (refine Zaj ?_;simp[ZhC,hg];omega)
  refine Zai (λ(k:Nat)=>k<=r.length/\∀(j:Nat) y,j<k->r[j]? =some y->(!Zj4 y)=false) (λ k=>[(1, .d (Zac r)),(5, .int k)]) (λ k=>[]) (λ k=>r.length-k) 0 ?_ ?_ ?_
  ·exact⟨uJ _,λ j y h=>by omega⟩
  ·exact kN kc0 []
  ·rintro k ⟨hk,hinv⟩;rcases uF k r.length with hlt|hge
   ·obtain⟨p,hp⟩:=Zad hlt;refine kw kO (kc1 hp) kc0 ?_
    repeat' first|exact True.intro|refine Bn.mk ?_ ?_|intro hc
    all_goals try
     refine Zaj ?_;rw[ZhC,ZcZ hp (by rw[Zj4,yK,qJ];omega)];simp
    ·refine⟨k+1,?_,eL [] _ _ (by refine⟨?_,?_⟩<;>(repeat' first|exact fmn|refine fmc ⟨(by first|rfl|(simp(disch:=omega) only[go_sem,simprocAttr,inL];first|done|omega|(congr 1;done))),?_⟩);done),?_⟩
     ·exact⟨by omega,ZbI hinv hp (by rw[Zj4,Ar,uG];omega)⟩
     ·omega
   ·refine kw1 kO kc0 kc0 ?_;refine Zaj ?_;rw[ZhC,ZdB (λ j y hj=>hinv j y (by omega))];simp[hg];omega
def gap (r:List Int)(b:Bd):Int:=at0 r b.2.1-at0 r b.1
def ZaL (f:Nat->Int):Nat->Int
 |0=>0
 |k+1=>ZaL f k+f k
theorem ZcU (f:Nat->Int)(k:Nat):ZaL f (k+1)=ZaL f k+f k:=rfl
theorem Zq2 {f:Nat->Int}{c:Int}{m:Nat}(h:∀k,k<m->-c<=f k/\f k<=c):∀k,k<=m->-(c*k)<=ZaL f k/\ZaL f k<=c*k:=by
 intro k
 induction k with
 |zero=>intro _;simp[ZaL]
 |succ k ih=>
  intro hk;have h1:=ih (by omega);have h2:=h k (by omega);have:c*((k+1:Nat):Int)=c*k+c:=by rw[Int.natCast_succ,zW,Int.mul_one]
  rw[ZaL,this];omega
def ZfK (r:List Int)(l:List Bd)(k:Nat):Int:=match l[k]? with
 |some b=>b.2.2.2*gap r b
 |none=>0
def Zk2 (g:Net)(r:List Int):Int:=if ZhC g r then ZaL (ZfK r g.2) g.2.length else 0
def ZdY (l:List Bd)(f:List Int)(v:Int)(j:Nat):Int:=match l[j]?,f[j]? with
 |some b,some x=>(if b.2.1=v then x-b.2.2.2 else 0)-(if b.1=v then x-b.2.2.2 else 0)
 |_,_=>0
end Go.Proofs.YtjjbhjnpeenbkaaGreatDoor.Sx
namespace Go.Proofs.YtjjbhjnpeenbkaaGreatDoor.Sx
open Go Go.PS Go.Proofs
set_option maxRecDepth 100000
attribute [local irreducible] Zab wpG Zaa Zaf
abbrev pD (n:Nat)(l:List Bd)(f:List Int):D:= .pt [.int n,ZdZ l,Zac f]
def ZbQ (n:Nat):List Int:=(List.range n).map λ u:Nat=>(u:Int)
def Za7 (g:Nat->Int)(n k:Nat):List Int:=(List.range n).map λ u=>if u<k then g u else 0
theorem Zdl (g:Nat->Int)(n k:Nat):(Za7 g n k).length=n:=by simp[Za7]
theorem ZeR {g:Nat->Int}{n k u:Nat}(h:u<n):(Za7 g n k)[u]? =some (if u<k then g u else 0):=by simp[Za7,h]
theorem Zic (g:Nat->Int)(n:Nat):(Za7 g n 0).map D.int=List.replicate n (D.int 0):=by
 rw[zJ];refine⟨by simp[Za7],λ b hb=>?_⟩;simp only[Za7,gN,uN]at hb;obtain⟨u,_,rfl⟩:=hb;simp
theorem Zib {g:Nat->Int}{n k:Nat}(h:k<n):(Za7 g n k).set k (g k)=Za7 g n (k+1):=by
 refine qL λ u=>?_
 by_cases hu:u<n
 ·rw[ZeR hu,qD,ZeR hu,Zdl];by_cases c:k=u
  ·subst c;rw[if_pos rfl,if_pos h,if_pos (by omega)]
  ·rw[if_neg c];by_cases c2:u<k
   ·rw[if_pos c2,if_pos (by omega)]
   ·rw[if_neg c2,if_neg (by omega)]
 ·rw[uP (by rw[yL,Zdl];omega),uP (by rw[Zdl];omega)]
theorem Zia (g:Nat->Int)(n:Nat):Za7 g n n=(List.range n).map g:=by
 rw[Za7];refine yE λ u hu=>?_
 rw[if_pos (yD.1 hu)]
theorem ZkB (n:Nat)(l:List Bd)(f:List Int)(hn:n<=2048):Zaf Tryz.prog 161 [.d (pD n l f)] [(2000, .dead)] (.ref 2000 1 0 n n) [(2000, .row 1 ((ZbQ n).map D.int))]:=by
 refine kM Tryz.func161 ?_;intro B X w0;refine kw1 (kow (Nat.beq 10) (b:=true)) kc0 kc0 ?_;refine Zai (λ(k:Nat)=>k<=n) (λ k=>[(3, .ref 10 1 0 n n),(12, .int n),(13, .int k)]) (λ k=>[(10, .row 1 ((Za7 (λ u=>(u:Int)) n k).map D.int))]) (λ k=>n-k) 0 ?_ ?_ ?_
 ·exact uJ _
 ·exact kN (kc1 @Zic) []
 ·intro k hk;have hlen:=Zdl (λ u=>(u:Int)) n k;rcases uF k n with hlt|hge
  ·have hg:(Za7 (λ u=>(u:Int)) n k)[k]? =_:=ZeR hlt;have hst:=Zib (g:=λ u=>(u:Int)) hlt;refine kw1 kO (kc2 hg hlen) kc0 ?_;refine⟨k+1,?_,kN (kc2 @hst.symm @yR.{0,0}) [],?_⟩
   ·omega
   ·omega
  ·refine kw1 kP kc0 kc0 ?_;have:k=n:=by omega
   subst this;refine kR kc0 [(2000,10)] [(2, .ref 2000 1 0 _ _)] [(2000, .row 1 _)] ?_;refine Za1 ?_;exact⟨rfl,uK.2 ⟨Zqr (by rw[Zia];rfl),yA _⟩⟩
def Zdp (l:List Bd)(v:Int)(j:Nat):Int:=match l[j]? with
 |some b=>(if b.2.1=v then b.2.2.2 else 0)-(if b.1=v then b.2.2.2 else 0)
 |none=>0
def Zbv (l:List Bd)(n k:Nat):List Int:=(List.range n).map λ v:Nat=>ZaL (Zdp l v) k
theorem Zhu (l:List Bd)(n k:Nat):(Zbv l n k).length=n:=by simp[Zbv]
theorem Zvr (l:List Bd)(n:Nat):(Zbv l n 0).map D.int=List.replicate n (D.int 0):=by
 rw[zJ];refine⟨by simp[Zbv],λ b hb=>?_⟩;simp only[Zbv,gN,uN]at hb;obtain⟨u,_,rfl⟩:=hb;rfl
theorem Ziw {l:List Bd}{n k u:Nat}(hu:u<n):(Zbv l n k)[u]? =some (ZaL (Zdp l u) k):=by simp[Zbv,hu]
theorem Zvt {l:List Bd}{n k i j:Nat}{b:Bd}(hb:l[k]? =some b)(hi:b.1=i)(hj:b.2.1=j)(hij:i≠j)(hin:i<n)(hjn:j<n):
  Zbv l n (k+1)=((Zbv l n k).set j (ZaL (Zdp l j) k+b.2.2.2)).set i (ZaL (Zdp l i) k-b.2.2.2):=by
 refine qL λ u=>?_
 by_cases hu:u<n
 ·rw[Ziw hu,ZcU,qD,qD,yL,Zhu,Ziw hu];have e:Zdp l u k=(if b.2.1=(u:Int)then b.2.2.2 else 0)-(if b.1=(u:Int)then b.2.2.2 else 0):=by simp[Zdp,hb]
  rw[e,hi,hj];by_cases c1:i=u
  ·subst c1;rw[if_neg (by omega),if_pos rfl,if_pos rfl,if_pos hu];congr 1;omega
  ·by_cases c2:j=u
   ·subst c2;rw[if_pos rfl,if_neg (by omega),if_neg c1,if_pos rfl,if_pos hu];congr 1;omega
   ·rw[if_neg (by omega),if_neg (by omega),if_neg c1,if_neg c2];congr 1;omega
 ·rw[uP (by rw[Zhu];omega),uP (by rw[yL,yL,Zhu];omega)]
theorem ZlL {l:List Bd}{v:Int}{m:Nat}(hm:m<=l.length)(h4:∀(k:Nat) b,l[k]? =some b->0<=b.2.2.2/\b.2.2.2<=8000):
  -(8000*(m:Int))<=ZaL (Zdp l v) m/\ZaL (Zdp l v) m<=8000*(m:Int):=by
 refine Zq2 (m:=m) (λ k hk=>?_) m (uH _);obtain⟨b,hb⟩:=Zad (show k<l.length by omega);have h5:=h4 k b hb;simp only[Zdp,hb];split<;>split<;>omega
theorem Zvu (n:Nat)(l:List Bd)(f:List Int)(hg:nOk (n,l)=true):Zaf Tryz.prog 212 [.d (pD n l f)] [(2000, .dead)] (.ref 2000 1 0 n n) [(2000, .row 1 ((Zbv l n l.length).map D.int))]:=by
 obtain⟨h1,h2,h3,h4⟩:=ZgN hg;dsimp only at h1 h2 h3 h4;refine kM Tryz.func212 ?_;intro B X w0;refine kw1 (kow (Nat.beq 11) (b:=true)) kc0 kc0 ?_;refine Zai (λ(k:Nat)=>k<=l.length) (λ k=>[(3, .ref 11 1 0 n n),(16, .d (ZdZ l)),(17, .int l.length),(18, .int k)]) (λ k=>[(11, .row 1 ((Zbv l n k).map D.int))]) (λ k=>l.length-k) 0 ?_ ?_ ?_
 ·exact uJ _
 ·exact kN (kc1 @Zvr) []
 ·intro k hk;have hbl:=Zhu l n k;rcases uF k l.length with hlt|hge
  ·obtain⟨b,hb⟩:=Zad hlt;have hbi:=h4 k b hb;obtain⟨i,hi⟩:∃i:Nat,b.1=i:=⟨b.1.toNat,by omega⟩;obtain⟨j,hj⟩:∃j:Nat,b.2.1=j:=⟨b.2.1.toNat,by omega⟩;have gi:(Zbv l n k)[i]? =_:=Ziw (by omega);have gj:(Zbv l n k)[j]? =_:=Ziw (by omega);have bi:=ZlL (v:=i) (show k<=l.length by omega) (λ k b hb=>by have:=h4 k b hb;omega);have bj:=ZlL (v:=j) (show k<=l.length by omega) (λ k b hb=>by have:=h4 k b hb;omega);have hst:=Zvt (n:=n) hb hi hj (by omega) (by omega) (by omega);have hij:j≠i:=by omega
   have gs:((List.map D.int (Zbv l n k)).set j (D.sc (.int .i64 (ZaL (Zdp l j) k+b.2.2.2))))[i]? =some (D.int (ZaL (Zdp l i) k)):=by
    rw[kL hij,uI,gi];rfl
   refine kw1 kO (kc8 hb hi hj gi gj gs hbl @yL.{0}) kc0 ?_;refine⟨k+1,?_,kN (kc2 hst @yR.{0,0}) [],?_⟩
   ·omega
   ·omega
  ·refine kw1 kP kc0 kc0 ?_;have:k=l.length:=by omega
   subst this;refine kR kc0 [(2000,11)] [(2, .ref 2000 1 0 _ _)] [(2000, .row 1 _)] ?_;refine Za1 ?_;exact⟨rfl,uK.2 ⟨rfl,yA _⟩⟩
end Go.Proofs.YtjjbhjnpeenbkaaGreatDoor.Sx
namespace Go.Proofs.YtjjbhjnpeenbkaaGreatDoor.Sx
open Go Go.PS Go.Proofs
set_option maxRecDepth 100000
attribute [local irreducible] Zab wpG Zaa
def upA (b:Bd)(s:List Int×Bool):List Int×Bool:=
 if at0 s.1 b.2.1<at0 s.1 b.1+b.2.2.1 then(s.1.set b.2.1.toNat (at0 s.1 b.1+b.2.2.1),true)else s
def upB (b:Bd)(t:Bool)(s:List Int×Bool):List Int×Bool:=
 if t&&decide (at0 s.1 b.1<at0 s.1 b.2.1-b.2.2.1)then(s.1.set b.1.toNat (at0 s.1 b.2.1-b.2.2.1),true)else s
def ZhL (f:List Int)(k:Nat):Bool:=match f[k]? with
 |some x=>decide (0<x)
 |none=>false
def ZiS (l:List Bd)(f:List Int)(k:Nat)(s:List Int×Bool):List Int×Bool:=match l[k]? with
 |some b=>upB b (ZhL f k) (upA b s)
 |none=>s
def ZbY (l:List Bd)(f r:List Int):Nat->List Int×Bool
 |0=>(r,false)
 |k+1=>ZiS l f k (ZbY l f r k)
def ZbM (l:List Bd)(f:List Int)(n:Nat):Nat->List Int
 |0=>List.replicate n 0
 |k+1=>(ZbY l f (ZbM l f n k) l.length).1
def Ze5 (l:List Bd)(f:List Int)(n:Nat):Nat->Option Nat
 |0=>none
 |k+1=>match Ze5 l f n k with|some i=>some i|none=>if(ZbY l f (ZbM l f n k) l.length).2 then none else some k
def ZgL (g:Net)(f:List Int):List Int×Bool:=match Ze5 g.2 f g.1.toNat (g.1.toNat+2)with
 |some k=>(ZbM g.2 f g.1.toNat (k+1),true)
 |none=>([],false)
theorem ZzE (b:Bd)(s:List Int×Bool):(upA b s).1.length=s.1.length:=by
 unfold upA;split<;>simp
theorem ZzG (b:Bd)(t:Bool)(s:List Int×Bool):(upB b t s).1.length=s.1.length:=by
 unfold upB;split<;>simp
theorem ZyW (l:List Bd)(f:List Int)(k:Nat)(s:List Int×Bool):(ZiS l f k s).1.length=s.1.length:=by
 unfold ZiS;split
 ·rw[ZzG,ZzE]
 ·rfl
theorem Zmg (l:List Bd)(f r:List Int):∀k,(ZbY l f r k).1.length=r.length
 |0=>rfl
 |k+1=>by rw[ZbY,ZyW,Zmg l f r k]
theorem ZoU (l:List Bd)(f:List Int)(n:Nat):∀k,(ZbM l f n k).length=n
 |0=>by simp[ZbM]
 |k+1=>by rw[ZbM,Zmg,ZoU l f n k]
def ZbU (r:List Int)(m:Int):Prop:=∀v:Int,-m<=at0 r v/\at0 r v<=m
theorem Zgv (r:List Int)(i:Nat)(x v:Int)(hv:0<=v):at0 (r.set i x) v=if v=i/\i<r.length then x else at0 r v:=by
 simp only[at0,qD];by_cases h:i=v.toNat
 ·subst h;by_cases h2:v.toNat<r.length
  ·rw[if_pos rfl,if_pos h2,if_pos (by omega)];rfl
  ·rw[if_pos rfl,if_neg h2,if_neg (by omega),uP (by omega)]
 ·rw[if_neg h,if_neg (by omega)]
theorem Zsm (r:List Int)(v:Int)(hv:v<0):at0 r v=at0 r 0:=by
 rw[at0,at0,show v.toNat=0 by omega];rfl
theorem ZmR {r:List Int}{m:Int}{i:Nat}{x:Int}(h:ZbU r m)(h1:-m<=x)(h2:x<=m):ZbU (r.set i x) m:=by
 have key:∀v:Int,0<=v->-m<=at0 (r.set i x) v/\at0 (r.set i x) v<=m:=by
  intro v hv;rw[Zgv _ _ _ _ hv];split
  ·exact⟨h1,h2⟩
  ·exact h v
 intro v;rcases(show v<0\/0<=v by omega)with hv|hv
 ·rw[Zsm _ _ hv];exact key 0 (gC _)
 ·exact key v hv
theorem Ze6 {r:List Int}{m m':Int}(h:ZbU r m)(hm:m<=m'):ZbU r m':=λ v=>by have:=h v;omega
def ZlF (l:List Bd):Prop:=∀(k:Nat) b,l[k]? =some b->-16777216<=b.2.2.1/\b.2.2.1<=16777216
theorem ZzD {b:Bd}{s:List Int×Bool}{m:Int}(h:ZbU s.1 m)(hb:-16777216<=b.2.2.1/\b.2.2.1<=16777216):ZbU (upA b s).1 (m+16777216):=by
 unfold upA;split
 ·have h1:=h b.1;exact ZmR (Ze6 h (by omega)) (by omega) (by omega)
 ·exact Ze6 h (by omega)
theorem ZzF {b:Bd}{t:Bool}{s:List Int×Bool}{m:Int}(h:ZbU s.1 m)(hb:-16777216<=b.2.2.1/\b.2.2.1<=16777216):ZbU (upB b t s).1 (m+16777216):=by
 unfold upB;split
 ·have h1:=h b.2.1;exact ZmR (Ze6 h (by omega)) (by omega) (by omega)
 ·exact Ze6 h (by omega)
theorem Zmf {l:List Bd}{f r:List Int}{m:Int}(hl:ZlF l)(h:ZbU r m):∀k:Nat,ZbU (ZbY l f r k).1 (m+33554432*k)
 |0=>Ze6 h (by omega)
 |k+1=>by
  have ih:=Zmf (f:=f) hl h k;rw[ZbY,ZiS];cases hb:l[k]? with
  |none=>exact Ze6 ih (by omega)
  |some b=>
   have:=hl k b hb;exact Ze6 (ZzF (ZzD ih this) this) (by omega)
theorem ZoT {l:List Bd}{f:List Int}{n:Nat}(hl:ZlF l)(hm:l.length<=4096):∀k:Nat,ZbU (ZbM l f n k) (137438953472*k)
 |0=>by
  intro v;have:at0 (ZbM l f n 0) v=0:=by
   simp only[at0,ZbM,gI];split<;>rfl
  rw[this];omega
 |k+1=>by
  rw[ZbM];exact Ze6 (Zmf hl (ZoT hl hm k) l.length) (by omega)
theorem Zy0 {l:List Bd}{f:List Int}{n m k:Nat}(hk:k<m)(h1:Ze5 l f n k=none)(h2:(ZbY l f (ZbM l f n k) l.length).2=false):Ze5 l f n m=some k:=by
 induction m with
 |zero=>omega
 |succ m ih=>
  rcases gA.1 hk with h|rfl
  ·simp[Ze5,ih h]
  ·simp[Ze5,h1,h2]
theorem Zy1 {l:List Bd}{f:List Int}{n k:Nat}(h1:Ze5 l f n k=none)(h2:(ZbY l f (ZbM l f n k) l.length).2=true):Ze5 l f n (k+1)=none:=by simp[Ze5,h1,h2]
theorem ZaS {r:List Int}{i:Nat}(h:i<r.length):r[i]? =some (at0 r i):=by
 obtain⟨x,hx⟩:=Zad h;rw[at0,uQ,hx];rfl
theorem ZzH {b:Bd}{t:Bool}{s:List Int×Bool}{i j:Nat}(hi:b.1=i)(hj:b.2.1=j)(hij:i≠j)(hjl:j<s.1.length)(h:at0 s.1 j<at0 s.1 i+b.2.2.1):
  upB b t (upA b s)=(s.1.set j (at0 s.1 i+b.2.2.1),true):=by
 have e:upA b s=(s.1.set j (at0 s.1 i+b.2.2.1),true):=by rw[upA,hi,hj,if_pos h,uQ]
 have e1:=Zgv s.1 j (at0 s.1 i+b.2.2.1) i (by omega);rw[if_neg (by omega)]at e1;have e2:=Zgv s.1 j (at0 s.1 i+b.2.2.1) j (by omega);rw[if_pos ⟨rfl,hjl⟩]at e2;rw[e,upB,hi,hj];dsimp only;rw[e1,e2,if_neg];simp only[uO,uG];omega
theorem ZzI {b:Bd}{t:Bool}{s:List Int×Bool}{i j:Nat}(hi:b.1=i)(hj:b.2.1=j)(h:¬at0 s.1 j<at0 s.1 i+b.2.2.1)(ht:t=true)(h2:at0 s.1 i<at0 s.1 j-b.2.2.1):
  upB b t (upA b s)=(s.1.set i (at0 s.1 j-b.2.2.1),true):=by
 have e:upA b s=s:=by rw[upA,hi,hj,if_neg h]
 rw[e,upB,hi,hj,if_pos (by simp[ht,h2]),uQ]
theorem Zrj {b:Bd}{t:Bool}{s:List Int×Bool}{i j:Nat}(hi:b.1=i)(hj:b.2.1=j)(h:¬at0 s.1 j<at0 s.1 i+b.2.2.1)(h2:t=false\/¬at0 s.1 i<at0 s.1 j-b.2.2.1):
  upB b t (upA b s)=s:=by
 have e:upA b s=s:=by rw[upA,hi,hj,if_neg h]
 rw[e,upB,hi,hj,if_neg];rcases h2 with h2|h2<;>simp[h2]
theorem Zm2 (g:Net)(f:List Int)(hg:nOk g=true)(hfl:f.length<=1000000):Zaa Tryz.prog 134 [nD g,Zac f] (.tup [Zac (ZgL g f).1, .bool (ZgL g f).2]):=by
 obtain⟨h1,h2,h3,h4⟩:=ZgN hg;obtain⟨m,l⟩:=g;dsimp only at h1 h2 h3 h4;obtain⟨n,rfl⟩:∃n:Nat,m=n:=⟨m.toNat,by omega⟩;have hlo:ZlF l:=λ k b hb=>by have:=h4 k b hb;omega
 refine kE Tryz.func134 ?_;intro hat B X w0;refine kw1 (kow (Nat.beq 13) (b:=true)) kc0 kc0 ?_;refine Zai (λ(k:Nat)=>k<=n+2/\Ze5 l f n k=none) (λ k=>[(1, .d (Zac f)),(2, .ptr 2 0 0 0),(6, .ref 13 1 0 n n),(7, .int k)]) (λ k=>[(2, .cells [.int n, .d (ZdZ l)]),(13, .row 1 ((ZbM l f n k).map D.int))]) (λ k=>n+2-k) 0 ?_ ?_ ?_
 ·exact⟨by omega,rfl⟩
 ·exact kN (kc2 @ZbM.eq_1 @zI.{0,0}) []
 ·rintro k ⟨hk,hstill⟩;have hwi:=ZoT (f:=f) (n:=n) hlo h3 k;rcases uF k (n+2)with hlt|hge
  ·refine kw1 kO kc0 kc0 ?_;refine Zai (λ(i:Nat)=>i<=l.length) (λ i=>[(1, .d (Zac f)),(2, .ptr 2 0 0 0),(6, .ref 13 1 0 n n),(7, .int k),(8, .bool (ZbY l f (ZbM l f n k) i).2),(9, .int i)]) (λ i=>[(2, .cells [.int n, .d (ZdZ l)]),(13, .row 1 ((ZbY l f (ZbM l f n k) i).1.map D.int))]) (λ i=>l.length-i) 0 ?_ ?_ ?_
   ·exact uJ _
   ·exact kN (kc1 @ZbY.eq_1) []
   ·intro i hi;have hlen:(ZbY l f (ZbM l f n k) i).1.length=n:=by rw[Zmg,ZoU]
    have hw:=Ze6 (m':=562949953421312) (Zmf (f:=f) hlo hwi i) (by omega);rcases uF i l.length with hil|hig
    ·obtain⟨b,hb⟩:=Zad hil;have hbi:=h4 i b hb;have hru:ZbY l f (ZbM l f n k) (i+1)=upB b (ZhL f i) (upA b (ZbY l f (ZbM l f n k) i)):=by simp only[ZbY,ZiS,hb]
     generalize ZbY l f (ZbM l f n k) i=s at hlen hw hru|-;obtain⟨p,hp⟩:∃p:Nat,b.1=p:=⟨b.1.toNat,by omega⟩;obtain⟨q,hq⟩:∃q:Nat,b.2.1=q:=⟨b.2.1.toNat,by omega⟩;have gp:=ZaS (r:=s.1) (i:=p) (by omega);have gq:=ZaS (r:=s.1) (i:=q) (by omega);have wp:=hw p;have wq:=hw q;have hpq:q≠p:=by omega
     have t1:∀x,((List.map D.int s.1).set q x)[p]? =some (D.int (at0 s.1 p)):=λ x=>by
      rw[kL hpq,uI,gp];rfl
     have t2:∀x,((List.map D.int s.1).set q x)[q]? =some x:=λ x=>kW (by rw[uE];omega)
     rcases gU (at0 s.1 q<at0 s.1 p+b.2.2.1)with c1|c1
     ·rw[ZzH hp hq (by omega) (by omega) c1]at hru;rcases uF i f.length with hif|hif
      ·obtain⟨x,hx⟩:=Zad hif;refine kw kO (kc8 hb hx hp hq gp gq t1 (kc3 t2 hlen @yL.{0})) kc0 ?_
       repeat' first|exact True.intro|refine Bn.mk ?_ ?_|intro hc
       all_goals
        refine⟨i+1,?_,kN (kc2 hru @yR.{0,0}) [],?_⟩
        ·omega
        ·omega
      ·refine kw1 kO (kc8 hb hp hq gp gq t1 t2 (kc2 hlen @yL.{0})) kc0 ?_
       all_goals
        refine⟨i+1,?_,kN (kc2 hru @yR.{0,0}) [],?_⟩
        ·omega
        ·omega
     ·rcases uF i f.length with hif|hif
      ·obtain⟨x,hx⟩:=Zad hif;have ht:ZhL f i=decide (0<x):=by rw[ZhL,hx]
       rw[ht]at hru;rcases gU (0<x/\at0 s.1 p<at0 s.1 q-b.2.2.1)with c2|c2
       ·rw[ZzI hp hq c1 (by simp[c2.1]) c2.2]at hru;refine kw1 kO (kc8 hb hx hp hq gp gq t1 (kc3 t2 hlen @yL.{0})) kc0 ?_
        all_goals
         refine⟨i+1,?_,kN (kc2 hru @yR.{0,0}) [],?_⟩
         ·omega
         ·omega
       ·rw[Zrj hp hq c1 (by rw[qJ];omega)]at hru;refine kw kO (kc8 hb hx hp hq gp gq t1 (kc3 t2 hlen @yL.{0})) kc0 ?_
        repeat' first|exact True.intro|refine Bn.mk ?_ ?_|intro hc
        all_goals
         refine⟨i+1,?_,kN (kc2 hru @yR.{0,0}) [],?_⟩
         ·omega
         ·omega
      ·have ht:ZhL f i=false:=by rw[ZhL,uP hif]
       rw[ht,Zrj hp hq c1 (.inl rfl)]at hru;refine kw1 kO (kc8 hb hp hq gp gq t1 t2 (kc2 hlen @yL.{0})) kc0 ?_
       all_goals
        refine⟨i+1,?_,kN (kc2 hru @yR.{0,0}) [],?_⟩
        ·omega
        ·omega
    ·have:i=l.length:=by omega
     subst this;rcases hch:(ZbY l f (ZbM l f n k) l.length).2 with _|_
     ·refine kw1 kO kc0 kc0 ?_;have e:ZgL (n,l) f=(ZbM l f n (k+1),true):=by
       rw[ZgL,uQ,Zy0 hlt hstill hch]
      rw[e,ZbM];exact⟨_,rfl,Zda (o:=13) rfl rfl (by simp[hlen]) (uD (by simp[hlen])),Zaj rfl,trivial⟩
     ·refine kw1 kO kc0 kc0 ?_;refine⟨k+1,?_,kN (kc1 @ZbM.eq_1) [],?_⟩
      ·exact⟨by omega,Zy1 hstill hch⟩
      ·omega
  ·refine kw1 kO kc0 kc0 ?_;have:k=n+2:=by omega
   subst this;have e:ZgL (n,l) f=([],false):=by rw[ZgL,uQ,hstill]
   rw[e];exact⟨_,rfl,ZcS rfl,Zaj rfl,trivial⟩
end Go.Proofs.YtjjbhjnpeenbkaaGreatDoor.Sx
namespace Go.Proofs.YtjjbhjnpeenbkaaGreatDoor.Sx
open Go Go.PS Go.Proofs
set_option maxRecDepth 100000
attribute [local irreducible] Zab wpG Zaa Zaf
abbrev Stp :=Int×Int×Int×Bool
abbrev stD (s:Stp):D:= .ag [.int s.1, .int s.2.1, .int s.2.2.1, .bool s.2.2.2]
def ZgW (l:List Bd)(f:List Int)(v k:Nat):List Stp:=match l[k]? with
 |some b=>(if b.1=v then[(b.2.1,b.2.2.1,(k:Int),false)]else[])++(if 0<at0 f k/\b.2.1=v then[(b.1,-b.2.2.1,(k:Int),true)]else[])
 |none=>[]
def Zej (l:List Bd)(f:List Int)(v:Nat):Nat->List Stp:=Zbm (ZgW l f v)
def ZcT (l:List Bd)(f:List Int)(k v:Nat):List D:=(Zej l f v k).map stD
abbrev ZhI (n:Nat)(l:List Bd)(f:List Int):List D:=(List.range n).map λ v=> .sl (ZcT l f l.length v)
theorem ZyX {l:List Bd}{f:List Int}{k:Nat}{b:Bd}{p q:Nat}(hb:l[k]? =some b)(hp:b.1=p)(hq:b.2.1=q)(hpq:p≠q)(v:Nat):
  ZcT l f (k+1) v=if v=p then ZcT l f k v++[stD (q,b.2.2.1,k,false)]else if v=q/\0<at0 f k then ZcT l f k v++[stD (p,-b.2.2.1,k,true)]else ZcT l f k v:=by
 simp only[ZcT,Zej,Zbm,ZgW,hb,hp,hq,yB];by_cases h1:v=p
 ·subst h1;rw[if_pos rfl,if_neg (by omega),if_pos rfl];simp
 ·rw[if_neg (by omega),if_neg h1];by_cases h2:v=q/\0<at0 f k
  ·rw[if_pos ⟨h2.2,by omega⟩,if_pos h2];simp
  ·rw[if_neg (by omega),if_neg h2];simp
theorem Zke (l:List Bd)(f:List Int)(v:Nat):∀k,(ZcT l f k v).length<=2*k
 |0=>by simp[ZcT,Zej,Zbm]
 |k+1=>by
  have:=Zke l f v k;simp only[ZcT,Zej,Zbm,yB,uC,uE]at this|-;have:(ZgW l f v k).length<=2:=by
   rw[ZgW];split
   ·split<;>split<;>simp
   ·simp
  omega
theorem ZyZ (n:Nat)(l:List Bd)(f:List Int)(hn:n<=2048)(hl:l.length<=4096)(hfl:f.length=l.length)
  (hb:∀(k:Nat) b,l[k]? =some b->0<=b.1/\b.1<n/\0<=b.2.1/\b.2.1<n/\b.1≠b.2.1/\-16777216<=b.2.2.1/\b.2.2.1<=16777216):
  Zaa Tryz.prog 211 [pD n l f] (.sl (ZhI n l f)):=by
 refine kE Tryz.func211 ?_;intro hat B X w0;refine kw1 (kow (λ s=>(Nat.beq 11 s).or ((Nat.beq 37 s).or (Nat.beq 63 s))) (b:=true)) kc0 kc0 ?_;refine Zau _ (Zh6 1 11 4 n rfl (λ i hi=>by simp(disch:=omega) only[go_sem,simprocAttr,ZiA,ZdC]) (by decide) (by decide)) ?_;refine Zee (λ(k:Nat)=>k<=l.length) (λ k=>[(0, .d (pD n l f)),(3, .ref 11 1 0 n n),(16, .d (ZdZ l)),(17, .int l.length),(18, .int k)]) (λ k=>[⟨1,11,4,n,ZcT l f k⟩]) (λ k=>[]) (λ k=>l.length-k) 0 ?_ ?_ ?_
 ·exact uJ _
 ·refine kF kc0 [] [] ?_
  repeat' first|exact fmn|refine fmc ⟨?_,?_⟩
  all_goals refine⟨_,(by first|rfl|(simp(disch:=omega) only[go_sem,simprocAttr,ZcT,Zej,Zbm];done)|(simp(disch:=omega) only[go_sem,simprocAttr,ZcT,Zej,Zbm];rfl)),λ i hi=>?_⟩
  all_goals dsimp only at hi|-
  all_goals try (exfalso;omega)
  all_goals try (simp(disch:=omega) only[go_sem,simprocAttr,ZcT,Zej,Zbm,Zdk,Zdo];done)
 ·intro k hk;rcases uF k l.length with hlt|hge
  ·obtain⟨b,hbk⟩:=Zad hlt;have hbi:=hb k b hbk;obtain⟨p,hp⟩:∃p:Nat,b.1=p:=⟨b.1.toNat,by omega⟩;obtain⟨q,hq⟩:∃q:Nat,b.2.1=q:=⟨b.2.1.toNat,by omega⟩;have hpq:p≠q:=by omega
   have hqp:q≠p:=by omega
   have hpn:p<n:=by omega
   have hqn:q<n:=by omega
   have gf:=ZaS (r:=f) (i:=k) (by omega);have hsu:=ZyX (f:=f) hbk hp hq hpq;have e1:=Zke l f p k;have e2:=Zke l f q k;refine Zau _ (ZeP _ _ [11] 11 p 900 1 4 n (by first|rfl|(simp(disch:=omega) only[go_sem,simprocAttr];done)|(simp(disch:=omega) only[go_sem,simprocAttr];rfl)) (by first|(simp(disch:=omega) only[go_sem,simprocAttr];done)|(simp(disch:=omega) only[go_sem,simprocAttr];rfl)) (by first|(simp(disch:=omega) only[go_sem,simprocAttr];done)|(simp(disch:=omega) only[go_sem,simprocAttr];rfl)) (λ i hi hne=>by simp(disch:=omega) only[go_sem,simprocAttr,hne];(repeat' split)<;>exact .ref _ _ _ _ _ ⟨by simp(disch:=omega) only[go_sem,simprocAttr,hne],by simp(disch:=omega) only[go_sem,simprocAttr,hne]⟩) (by(repeat' first|refine ZeG ?_|exact ZeH (ids:=[11]) rfl rfl (uU rfl)|refine ZeF ?_|refine ZeI ?_|refine ZeD ?_|refine ZeJ ?_|refine ZeK ?_|refine ZeE (by dsimp only;omega) (by dsimp only;omega) (by omega) (by omega) (uU rfl) ?_);done) rfl rfl rfl) ?_;refine Zau _ (ZeP _ _ [11,900] 11 q 901 1 4 n (by first|rfl|(simp(disch:=omega) only[go_sem,simprocAttr,hpq,hqp];done)|(simp(disch:=omega) only[go_sem,simprocAttr,hpq,hqp];rfl)) (by first|(simp(disch:=omega) only[go_sem,simprocAttr,hpq,hqp];done)|(simp(disch:=omega) only[go_sem,simprocAttr,hpq,hqp];rfl)) (by first|(simp(disch:=omega) only[go_sem,simprocAttr,hpq,hqp];done)|(simp(disch:=omega) only[go_sem,simprocAttr,hpq,hqp];rfl)) (λ i hi hne=>by simp(disch:=omega) only[go_sem,simprocAttr,hne,hpq,hqp];(repeat' split)<;>exact .ref _ _ _ _ _ ⟨by simp(disch:=omega) only[go_sem,simprocAttr,hne,hpq,hqp],by simp(disch:=omega) only[go_sem,simprocAttr,hne,hpq,hqp]⟩) (by(repeat' first|refine ZeG ?_|exact ZeH (ids:=[11,900]) rfl rfl (uU rfl)|refine ZeF ?_|refine ZeI ?_|refine ZeD ?_|refine ZeJ ?_|refine ZeK ?_|refine ZeE (by dsimp only;omega) (by dsimp only;omega) (by omega) (by omega) (uU rfl) ?_);done) rfl rfl rfl) ?_;refine kw (kow (λ s=>(Nat.beq 11 s).or ((Nat.beq 37 s).or (Nat.beq 63 s))) (b:=true)) (kc6 hbk hp hq gf hpq hqp) kc0 ?_
   repeat' first|exact True.intro|refine Bn.mk ?_ ?_|intro hc
   ·refine⟨k+1,?_,kF kc0 [(fid 1 p,38),(fid 1 q,64)] [] ?_,?_⟩
    ·omega
    ·repeat' first|exact fmn|refine fmc ⟨?_,?_⟩
     all_goals refine⟨_,(by first|rfl|(simp(disch:=omega) only[go_sem,simprocAttr,hsu,hpq,hqp,yI,uC,uV,uY,hc];done)|(simp(disch:=omega) only[go_sem,simprocAttr,hsu,hpq,hqp,yI,uC,uV,uY,hc];rfl)),λ i hi=>?_⟩
     all_goals dsimp only at hi|-
     all_goals rcases gU (i=p)with rfl|hi0
     all_goals rcases gU (i=q)with rfl|hi1
     all_goals try (exfalso;omega)
     all_goals try (simp(disch:=omega) only[go_sem,simprocAttr,hsu,hpq,hqp,yI,uC,uV,uY,hc,Zdk,Zdo];done)
     all_goals try (simp(disch:=omega) only[go_sem,simprocAttr,hsu,hpq,hqp,yI,uC,uV,uY,hc,hi0,Zdk,Zdo];done)
     all_goals try (simp(disch:=omega) only[go_sem,simprocAttr,hsu,hpq,hqp,yI,uC,uV,uY,hc,hi1,Zdk,Zdo];done)
     all_goals try (simp(disch:=omega) only[go_sem,simprocAttr,hsu,hpq,hqp,yI,uC,uV,uY,hc,hi0,hi1,Zdk,Zdo];done)
    ·omega
   ·refine⟨k+1,?_,eF [(fid 1 p,38),(fid 1 q,901)] [] _ _ _ (by refine⟨?_,?_⟩<;>(repeat' first|exact fmn|refine fmc ⟨(by first|rfl|(simp(disch:=omega) only[go_sem,simprocAttr,inL];first|done|omega|(congr 1;done))),?_⟩);done) ?_,?_⟩
    ·omega
    ·exact kT2 (kc8 hsu hpq hqp @yI.{0} @uC.{0} @uV.{0} @uY.{0} hc) p q
    ·omega
  ·refine kw1 kP kc0 kc0 ?_;have:k=l.length:=by omega
   subst this;refine Zau _ (Ztz.1 (kG kc0 [] [] [(2, .ref 11 1 0 n n)] [⟨1,11,4,n,ZcT l f l.length⟩] [] ?_)) ?_
   ·exact kT0 kc0
   ·refine Zau _ (Zh7 _ _ _ _ ⟨ZbH rfl,ZbH rfl,(by(repeat' first|exact fmn|refine fmc ⟨⟨uU rfl,uU rfl,by dsimp only;omega⟩,?_⟩);done)⟩ rfl [11] rfl rfl rfl rfl) ?_;refine kw1 kO kc0 kc0 ?_;exact Zda (o:=11) rfl rfl (by simp) (uD (by simp))
end Go.Proofs.YtjjbhjnpeenbkaaGreatDoor.Sx
