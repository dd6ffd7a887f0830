/- Barycenters: layers, sweeps, rounds, by the program and by the reference. -/
import Derived.Test.YtjjbhjnpeenbkaaGreatDoorBaS1
set_option linter.unusedSimpArgs false
set_option linter.unusedVariables false
set_option maxHeartbeats 16000000
namespace Go.Proofs.YtjjbhjnpeenbkaaGreatDoor
open Go Go.PS Go.Proofs
open Go.Stb
set_option maxRecDepth 100000
attribute [local irreducible] Zad wpG Zaa Zah
theorem ZwG (a:Lv)(h:Zaw a=true):Zaa Tryz.prog 165 [lvD a] (lvD a):=by
 obtain⟨s1,s2,s3⟩:=ZiL h;obtain⟨t1,t2⟩:=Zdy h;have hca:=ZmJ a.2.2.1 (by omega);have hl1:∀(k:Nat) x,a.2.1[k]? =some x->Zaa Tryz.prog 214 [Zab x] (Zab x):=λ k x hx=>Ziz x (by have:=Zde (uA hx);omega)
 have hl2:∀(k:Nat) x,a.2.2.2[k]? =some x->Zaa Tryz.prog 214 [Zab x] (Zab x):=λ k x hx=>Ziz x (by have:=s3 x (uA hx);omega)
 obtain⟨n,ls,ar,cs⟩:=a;dsimp only at*;refine kE Tryz.func165 ?_;intro hat B X w0;refine kw1 kO kc0 (kc1 hca) ?_;refine Zaq _ (Zb9 3 1 901 1 rfl rfl rfl) ?_;refine Zae (λ(k:Nat)=>k<=ls.length) (λ k=>[(1, .ptr 1 0 0 0),(2, .ptr 2 0 0 0),(3, .ptr 3 0 0 0),(15, .d (Zag ls)),(16, .int ls.length),(17, .int k)]) (λ k=>[(1, .cells [.int n, .d (Zag ls), .d (Zal ar), .d (Zag cs)]),(2, .cells [.int 0, .nilS, .nilS, .nilS]),(3, .cells [.int n, .ref 901 1 0 k k, .d (Zal ar), .nilS]),(901, .row 1 ((ls.take k).map Zab))]) (λ k=>ls.length-k) 0 ?_ ?_ ?_
 ·exact uG _
 ·exact kN (kc2 @yU.{0} @yE.{0,0}) []
 ·intro k hk;have hlk:(ls.take k).length=k:=by rw[yF];omega
  have htk:((ls.take k).map Zab).take k=(ls.take k).map Zab:=uE (by rw[uD,hlk];exact uI _);rcases uC k ls.length with hlt|hge
  ·obtain⟨x,hx⟩:=Zac hlt;have hc1:=hl1 k x hx;have e1:=ZaA hx
   repeat' first|refine ZbH rfl ?_|refine Za0 ?_|refine wR ?_|(refine rc (hc1) rfl ?_ ?_;(· first|rfl|simp(disch:=omega) only[go_sem,simprocAttr,hx,hlk,htk,roomy]))|(refine ZbM rfl rfl (λ hc=>?_) (λ hc=>?_)<;>try simp only[hcL]at hc)|(refine ZbL _ rfl rfl (λ hc=>?_) (λ hc=>?_)<;>(try simp only[hcL]at hc)<;>try omega)|simp(disch:=omega) only[go_sem,simprocAttr,hx,hlk,htk,roomy]|exact λ d hd=>by rw[uT.1 hd];rfl|apply And.intro|omega|decide+kernel
   refine⟨k+1,?_,kN (kc5 e1 htk @uR.{0,0} @uS.{0,0} @yE.{0,0}) [(901,26)],?_⟩
   ·omega
   ·omega
  ·have:k=ls.length:=by omega
   subst this
   try dsimp only
   rw[yH];refine kw1 kO kc0 kc0 ?_;refine Zaq _ (Zb9 3 3 902 1 rfl rfl rfl) ?_;refine Zae (λ(k:Nat)=>k<=cs.length) (λ k=>[(2, .ptr 2 0 0 0),(3, .ptr 3 0 0 0),(30, .d (Zag cs)),(31, .int cs.length),(32, .int k)]) (λ k=>[(2, .cells [.int 0, .nilS, .nilS, .nilS]),(3, .cells [.int n, .ref 901 1 0 ls.length ls.length, .d (Zal ar), .ref 902 1 0 k k]),(901, .row 1 (ls.map Zab)),(902, .row 1 ((cs.take k).map Zab))]) (λ k=>cs.length-k) 0 ?_ ?_ ?_
   ·exact uG _
   ·exact kN (kc2 @yU.{0} @yE.{0,0}) []
   ·intro k hk;have hlk:(cs.take k).length=k:=by rw[yF];omega
    have htk:((cs.take k).map Zab).take k=(cs.take k).map Zab:=uE (by rw[uD,hlk];exact uI _);rcases uC k cs.length with hlt|hge
    ·obtain⟨x,hx⟩:=Zac hlt;have hc1:=hl2 k x hx;have e1:=ZaA hx
     repeat' first|refine ZbH rfl ?_|refine Za0 ?_|refine wR ?_|(refine rc (hc1) rfl ?_ ?_;(· first|rfl|simp(disch:=omega) only[go_sem,simprocAttr,hx,hlk,htk,roomy]))|(refine ZbM rfl rfl (λ hc=>?_) (λ hc=>?_)<;>try simp only[hcL]at hc)|(refine ZbL _ rfl rfl (λ hc=>?_) (λ hc=>?_)<;>(try simp only[hcL]at hc)<;>try omega)|simp(disch:=omega) only[go_sem,simprocAttr,hx,hlk,htk,roomy]|exact λ d hd=>by rw[uT.1 hd];rfl|apply And.intro|omega|decide+kernel
     refine⟨k+1,?_,kN (kc5 e1 htk @uR.{0,0} @uS.{0,0} @yE.{0,0}) [(902,41)],?_⟩
     ·omega
     ·omega
    ·have:k=cs.length:=by omega
     subst this
     try dsimp only
     rw[yH];refine kw1 kO kc0 kc0 ?_;refine⟨_,_,_,_,rfl,?_⟩;simp(disch:=omega) only[go_sem,simprocAttr,toD,uD,uI,qN];rw[Zan,Zan]
theorem ZDC (a:Lv)(hw:wide a)(hv:Zaw a=true)(har:a.2.2.1.length<=700):Zaa Tryz.prog 166 [lvD a] (lvD (swB a)):=by
 obtain⟨t1,t2⟩:=Zdy hv;have hkd:=ZmY (Kin.refl hv hw);have hku:=λ k hk=>ZoQ (hkd (a.2.1.length-1) (uI _)) k hk
 have h1:∀k,k+1<a.2.1.length->Zaa Tryz.prog 215 [lvD (ZdY a k), .int (k+1:Nat), .int k] (lvD (ZdY a (k+1))):=λ k hk=>by
  have hK:=hkd k (by omega);exact Zsl (ZdY a k) (k+1) k hK.wd hK.ok (by rw[hK.arcs];exact har) (by rw[hK.len];omega) (by rw[hK.len];omega)
 have h2:∀k,k+1<a.2.1.length->Zaa Tryz.prog 215 [lvD (upB (ZdY a (a.2.1.length-1)) a.2.1.length k), .int (a.2.1.length-2-k:Nat), .int (a.2.1.length-1-k:Nat)] (lvD (upB (ZdY a (a.2.1.length-1)) a.2.1.length (k+1))):=λ k hk=>by
  have hK:=hku k (by omega);exact Zsl _ (a.2.1.length-2-k) (a.2.1.length-1-k) hK.wd hK.ok (by rw[hK.arcs];exact har) (by rw[hK.len];omega) (by rw[hK.len];omega)
 have hl1:∀k,k<=a.2.1.length-1->(ZdY a k).2.1.length=a.2.1.length:=λ k hk=>(hkd k hk).len
 rw[swB];have hd0:ZdY a 0=a:=rfl;have hu0:upB (ZdY a (a.2.1.length-1)) a.2.1.length 0=ZdY a (a.2.1.length-1):=rfl;clear hkd hku;obtain⟨N,hN⟩:∃N,N=a.2.1.length:=⟨_,rfl⟩;rw[<-hN]at h1 h2 hl1 hu0 t1|-;generalize upB (ZdY a (N-1)) N=U at*;generalize ZdY a=W at*;rw[<-hd0]at hN;rw[show a=W 0 from hd0.symm];clear hd0;refine kE Tryz.func166 ?_;intro hat B X w0;refine kw1 kO kc0 kc0 ?_;refine Zae (λ(k:Nat)=>k<=N-1) (λ k=>[(1, .ptr 1 0 0 0),(2, .ptr 2 0 0 0),(3, .int (k+1:Nat))]) (λ k=>[(1, .cells [.int (W k).1, .d (Zag (W k).2.1), .d (Zal (W k).2.2.1), .d (Zag (W k).2.2.2)]),(2, .cells [.int 0, .nilS, .nilS, .nilS])]) (λ k=>N-k) 0 ?_ ?_ ?_
 ·exact uG _
 ·exact kN (kc2 @qM @gY) []
 ·intro k hk;have hl:=hl1 k hk;have e1:((k+1:Nat):Int)-1=(k:Int):=by omega
  have e2:((k+1:Nat):Int)+1=((k+1+1:Nat):Int):=by omega
  rcases uC (k+1) N with hlt|hge
  ·have c1:=h1 k hlt;refine kw1 kO (kc3 hl e1 e2) (kc1 c1) ?_;refine⟨k+1,?_,kN kc0 [],?_⟩
   ·omega
   ·omega
  ·have:k=N-1:=by omega
   subst this;rw[<-hu0]at hl|-;clear hu0 h1;refine kw1 kO (kc1 hl) kc0 ?_;refine Zae (λ(k:Nat)=>k<=N-1) (λ k=>[(1, .ptr 1 0 0 0),(2, .ptr 2 0 0 0),(4, .int ((N:Int)-2-k))]) (λ k=>[(1, .cells [.int (U k).1, .d (Zag (U k).2.1), .d (Zal (U k).2.2.1), .d (Zag (U k).2.2.2)]),(2, .cells [.int 0, .nilS, .nilS, .nilS])]) (λ k=>N-k) 0 ?_ ?_ ?_
   ·exact uG _
   ·exact kN (kc2 @Int.natCast_zero @Int.sub_zero) []
   ·intro k hk;rcases uC (k+1) N with hlt|hge
    ·have c1:=h2 k hlt;have e3:(N:Int)-2-k=((N-2-k:Nat):Int):=by omega
     have e4:((N-2-k:Nat):Int)+1=((N-1-k:Nat):Int):=by omega
     have e5:((N-2-k:Nat):Int)-1=(N:Int)-2-((k+1:Nat):Int):=by omega
     rw[e3];refine kw1 kO (kc2 e4 e5) (kc1 c1) ?_;refine⟨k+1,?_,kN kc0 [],?_⟩
     ·omega
     ·omega
    ·have:k=N-1:=by omega
     subst this;refine kw1 kO kc0 kc0 ?_;refine⟨_,_,_,_,rfl,?_⟩;simp(disch:=omega) only[go_sem,simprocAttr,toD]
theorem ZBy (r:Int):(if(100:Int)<(if r<0 then 0 else r)then(100:Int)else(if r<0 then 0 else r))=(ZgI r:Int):=by
 rw[ZgI];split<;>split<;>omega
theorem Zvy (a:Lv)(r:Int)(hw:wide a)(har:a.2.2.1.length<=700):Zaa Tryz.prog 103 [lvD a, .int r] (.tup [lvD (ZkV a r).1, .int (ZkV a r).2]):=by
 have h1:=ZhD a hw;rw[ZkV];rcases hv:Zaw a with _|_<;>rw[hv]at h1
 ·rw[if_neg (by decide)];refine kE Tryz.func103 ?_;intro hat B X w0;refine kw1 kO kc0 (kc1 h1) ?_;refine⟨_,rfl,⟨_,_,_,_,rfl,?_⟩,Zaf rfl,trivial⟩;simp(disch:=omega) only[go_sem,simprocAttr,toD];rfl
 ·rw[if_pos rfl];obtain⟨t1,t2⟩:=Zdy hv;have h2:=ZwG a hv;have hk:=ZnK hv hw;have h3:∀k,Zaa Tryz.prog 166 [lvD (Zdh a k)] (lvD (Zdh a (k+1))):=λ k=>ZDC _ (hk k).wd (hk k).ok (by rw[(hk k).arcs];exact har)
  have h4:∀k,Zaa Tryz.prog 105 [lvD (Zdh a k)] (.int (Zbk (Zdh a k))):=λ k=>Zpe _ (hk k).wd (by rw[(hk k).len];omega)
  have hbs:∀k,Zct a (k+1)=if Zbk (Zdh a (k+1))<Zbk (Zct a k)then Zdh a (k+1)else Zct a k:=λ _=>rfl
  have hb0:Zct a 0=Zdh a 0:=rfl;have hn0:Zdh a 0=a:=rfl;have hre:=ZBy r;have hr100:ZgI r<=100:=by rw[ZgI];omega
  dsimp only;generalize ZgI r=R at*;rw[<-hn0]at h1 h2;rw[show a=Zdh a 0 from rfl];rw[show Zct (Zdh a 0)=Zct a from rfl];clear hk hn0;generalize Zdh a=W at*;generalize Zct a=Bs at*;refine kE Tryz.func103 ?_;intro hat B X w0;have h40:=h4 0;refine kw1 kO (kc1 hre) (kc3 h1 h2 h40) ?_;refine Zae (λ(k:Nat)=>k<=R) (λ k=>[(2, .ptr 2 0 0 0),(4, .ptr 4 0 0 0),(6, .ptr 6 0 0 0),(7, .int (Zbk (Bs k))),(20, .int R),(21, .int k)]) (λ k=>[(2, .cells [.int (W k).1, .d (Zag (W k).2.1), .d (Zal (W k).2.2.1), .d (Zag (W k).2.2.2)]),(4, .cells [.int 0, .nilS, .nilS, .nilS]),(6, .cells [.int (Bs k).1, .d (Zag (Bs k).2.1), .d (Zal (Bs k).2.2.1), .d (Zag (Bs k).2.2.2)])]) (λ k=>R-k) 0 ?_ ?_ ?_
  ·exact uG _
  ·exact kN (kc1 hb0) []
  ·intro k hk;rcases uC k R with hlt|hge
   ·have c1:=h3 k;have c2:=h4 (k+1);have e1:=hbs k;by_cases c:Zbk (W (k+1))<Zbk (Bs k)
    ·rw[if_pos c]at e1;refine kw1 kO (kc1 c) (kc2 c1 c2) ?_;refine⟨k+1,?_,kN (kc1 e1) [],?_⟩
     ·omega
     ·omega
    ·rw[if_neg c]at e1;refine kw1 kO (kc1 c) (kc2 c1 c2) ?_;refine⟨k+1,?_,kN (kc1 e1) [],?_⟩
     ·omega
     ·omega
   ·have:k=R:=by omega
    subst this;refine kw1 kO kc0 kc0 ?_;refine⟨_,rfl,⟨_,_,_,_,rfl,?_⟩,Zaf rfl,trivial⟩;simp(disch:=omega) only[go_sem,simprocAttr,toD]
end Go.Proofs.YtjjbhjnpeenbkaaGreatDoor
