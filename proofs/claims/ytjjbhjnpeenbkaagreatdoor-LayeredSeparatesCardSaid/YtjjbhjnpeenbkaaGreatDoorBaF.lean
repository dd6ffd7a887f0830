/- Barycenters: layers, sweeps, rounds, by the program and by the reference. -/
import Derived.Test.YtjjbhjnpeenbkaaGreatDoorBaS1
set_option linter.unusedSimpArgs false
set_option linter.unusedVariables false
set_option maxHeartbeats 16000000
namespace Go.Proofs.YtjjbhjnpeenbkaaGreatDoor
open Go Go.PS Go.Proofs
open Go.Stb
set_option maxRecDepth 100000
attribute [local irreducible] Zad wpG Zaa Zag
theorem ZxO (a:Lv)(h:Zar a=true):Zaa Tryz.prog 165 [lvD a] (lvD a):=by
 obtain⟨s1,s2,s3⟩:=Zia h;obtain⟨t1,t2⟩:=ZcV h;have hca:=Znd a.2.2.1 (by omega);have hl1:∀(k:Nat) x,a.2.1[k]? =some x->Zaa Tryz.prog 214 [Zab x] (Zab x):=λ k x hx=>ZiO x (by have:=Zdq (uA hx);omega)
 have hl2:∀(k:Nat) x,a.2.2.2[k]? =some x->Zaa Tryz.prog 214 [Zab x] (Zab x):=λ k x hx=>ZiO x (by have:=s3 x (uA hx);omega)
 obtain⟨n,ls,ar,cs⟩:=a;dsimp only at*;refine kE Tryz.func165 ?_;intro hat B X w0;refine kw1 kO kc0 (kc1 hca) ?_;refine Zao _ (Zch 3 1 901 1 rfl rfl rfl) ?_;refine Zaf (λ(k:Nat)=>k<=ls.length) (λ k=>[(1, .ptr 1 0 0 0),(2, .ptr 2 0 0 0),(3, .ptr 3 0 0 0),(15, .d (Zae ls)),(16, .int ls.length),(17, .int k)]) (λ k=>[(1, .cells [.int n, .d (Zae ls), .d (Zaj ar), .d (Zae cs)]),(2, .cells [.int 0, .nilS, .nilS, .nilS]),(3, .cells [.int n, .ref 901 1 0 k k, .d (Zaj ar), .nilS]),(901, .row 1 ((ls.take k).map Zab))]) (λ k=>ls.length-k) 0 ?_ ?_ ?_
 ·exact uH _
 ·exact kN (kc2 @yX.{0} @yH.{0,0}) []
 ·intro k hk;have hlk:(ls.take k).length=k:=by rw[yJ];omega
  have htk:((ls.take k).map Zab).take k=(ls.take k).map Zab:=uD (by rw[uC,hlk];exact uJ _);rcases uE k ls.length with hlt|hge
  ·obtain⟨x,hx⟩:=Zac hlt;have hc1:=hl1 k x hx;have e1:=ZaA hx
   repeat' first|refine ZbQ rfl ?_|refine Za7 ?_|refine wR ?_|(refine rc (hc1) rfl ?_ ?_;(· first|rfl|simp(disch:=omega) only[go_sem,simprocAttr,hx,hlk,htk,roomy]))|(refine ZbY rfl rfl (λ hc=>?_) (λ hc=>?_)<;>try simp only[hcL]at hc)|(refine ZbW _ rfl rfl (λ hc=>?_) (λ hc=>?_)<;>(try simp only[hcL]at hc)<;>try omega)|simp(disch:=omega) only[go_sem,simprocAttr,hx,hlk,htk,roomy]|exact λ d hd=>by rw[uS.1 hd];rfl|apply And.intro|omega|decide+kernel
   refine⟨k+1,?_,kN (kc5 e1 htk @uQ.{0,0} @uT.{0,0} @yH.{0,0}) [(901,26)],?_⟩
   ·omega
   ·omega
  ·have:k=ls.length:=by omega
   subst this
   try dsimp only
   rw[yE];refine kw1 kO kc0 kc0 ?_;refine Zao _ (Zch 3 3 902 1 rfl rfl rfl) ?_;refine Zaf (λ(k:Nat)=>k<=cs.length) (λ k=>[(2, .ptr 2 0 0 0),(3, .ptr 3 0 0 0),(30, .d (Zae cs)),(31, .int cs.length),(32, .int k)]) (λ k=>[(2, .cells [.int 0, .nilS, .nilS, .nilS]),(3, .cells [.int n, .ref 901 1 0 ls.length ls.length, .d (Zaj ar), .ref 902 1 0 k k]),(901, .row 1 (ls.map Zab)),(902, .row 1 ((cs.take k).map Zab))]) (λ k=>cs.length-k) 0 ?_ ?_ ?_
   ·exact uH _
   ·exact kN (kc2 @yX.{0} @yH.{0,0}) []
   ·intro k hk;have hlk:(cs.take k).length=k:=by rw[yJ];omega
    have htk:((cs.take k).map Zab).take k=(cs.take k).map Zab:=uD (by rw[uC,hlk];exact uJ _);rcases uE k cs.length with hlt|hge
    ·obtain⟨x,hx⟩:=Zac hlt;have hc1:=hl2 k x hx;have e1:=ZaA hx
     repeat' first|refine ZbQ rfl ?_|refine Za7 ?_|refine wR ?_|(refine rc (hc1) rfl ?_ ?_;(· first|rfl|simp(disch:=omega) only[go_sem,simprocAttr,hx,hlk,htk,roomy]))|(refine ZbY rfl rfl (λ hc=>?_) (λ hc=>?_)<;>try simp only[hcL]at hc)|(refine ZbW _ rfl rfl (λ hc=>?_) (λ hc=>?_)<;>(try simp only[hcL]at hc)<;>try omega)|simp(disch:=omega) only[go_sem,simprocAttr,hx,hlk,htk,roomy]|exact λ d hd=>by rw[uS.1 hd];rfl|apply And.intro|omega|decide+kernel
     refine⟨k+1,?_,kN (kc5 e1 htk @uQ.{0,0} @uT.{0,0} @yH.{0,0}) [(902,41)],?_⟩
     ·omega
     ·omega
    ·have:k=cs.length:=by omega
     subst this
     try dsimp only
     rw[yE];refine kw1 kO kc0 kc0 ?_;refine⟨_,_,_,_,rfl,?_⟩;simp(disch:=omega) only[go_sem,simprocAttr,toD,uC,uJ,qR];rw[Zal,Zal]
theorem ZER (a:Lv)(hw:wide a)(hv:Zar a=true)(har:a.2.2.1.length<=700):Zaa Tryz.prog 166 [lvD a] (lvD (swB a)):=by
 obtain⟨t1,t2⟩:=ZcV hv;have hkd:=Znr (Kin.refl hv hw);have hku:=λ k hk=>Zpq (hkd (a.2.1.length-1) (uJ _)) k hk
 have h1:∀k,k+1<a.2.1.length->Zaa Tryz.prog 215 [lvD (ZdO a k), .int (k+1:Nat), .int k] (lvD (ZdO a (k+1))):=λ k hk=>by
  have hK:=hkd k (by omega);exact Ztf (ZdO a k) (k+1) k hK.wd hK.ok (by rw[hK.arcs];exact har) (by rw[hK.len];omega) (by rw[hK.len];omega)
 have h2:∀k,k+1<a.2.1.length->Zaa Tryz.prog 215 [lvD (upB (ZdO a (a.2.1.length-1)) a.2.1.length k), .int (a.2.1.length-2-k:Nat), .int (a.2.1.length-1-k:Nat)] (lvD (upB (ZdO a (a.2.1.length-1)) a.2.1.length (k+1))):=λ k hk=>by
  have hK:=hku k (by omega);exact Ztf _ (a.2.1.length-2-k) (a.2.1.length-1-k) hK.wd hK.ok (by rw[hK.arcs];exact har) (by rw[hK.len];omega) (by rw[hK.len];omega)
 have hl1:∀k,k<=a.2.1.length-1->(ZdO a k).2.1.length=a.2.1.length:=λ k hk=>(hkd k hk).len
 rw[swB];have hd0:ZdO a 0=a:=rfl;have hu0:upB (ZdO a (a.2.1.length-1)) a.2.1.length 0=ZdO a (a.2.1.length-1):=rfl;clear hkd hku;obtain⟨N,hN⟩:∃N,N=a.2.1.length:=⟨_,rfl⟩;rw[<-hN]at h1 h2 hl1 hu0 t1|-;generalize upB (ZdO a (N-1)) N=U at*;generalize ZdO a=W at*;rw[<-hd0]at hN;rw[show a=W 0 from hd0.symm];clear hd0;refine kE Tryz.func166 ?_;intro hat B X w0;refine kw1 kO kc0 kc0 ?_;refine Zaf (λ(k:Nat)=>k<=N-1) (λ k=>[(1, .ptr 1 0 0 0),(2, .ptr 2 0 0 0),(3, .int (k+1:Nat))]) (λ k=>[(1, .cells [.int (W k).1, .d (Zae (W k).2.1), .d (Zaj (W k).2.2.1), .d (Zae (W k).2.2.2)]),(2, .cells [.int 0, .nilS, .nilS, .nilS])]) (λ k=>N-k) 0 ?_ ?_ ?_
 ·exact uH _
 ·exact kN (kc2 @qT @gV) []
 ·intro k hk;have hl:=hl1 k hk;have e1:((k+1:Nat):Int)-1=(k:Int):=by omega
  have e2:((k+1:Nat):Int)+1=((k+1+1:Nat):Int):=by omega
  rcases uE (k+1) N with hlt|hge
  ·have c1:=h1 k hlt;refine kw1 kO (kc3 hl e1 e2) (kc1 c1) ?_;refine⟨k+1,?_,kN kc0 [],?_⟩
   ·omega
   ·omega
  ·have:k=N-1:=by omega
   subst this;rw[<-hu0]at hl|-;clear hu0 h1;refine kw1 kO (kc1 hl) kc0 ?_;refine Zaf (λ(k:Nat)=>k<=N-1) (λ k=>[(1, .ptr 1 0 0 0),(2, .ptr 2 0 0 0),(4, .int ((N:Int)-2-k))]) (λ k=>[(1, .cells [.int (U k).1, .d (Zae (U k).2.1), .d (Zaj (U k).2.2.1), .d (Zae (U k).2.2.2)]),(2, .cells [.int 0, .nilS, .nilS, .nilS])]) (λ k=>N-k) 0 ?_ ?_ ?_
   ·exact uH _
   ·exact kN (kc2 @Int.natCast_zero @Int.sub_zero) []
   ·intro k hk;rcases uE (k+1) N with hlt|hge
    ·have c1:=h2 k hlt;have e3:(N:Int)-2-k=((N-2-k:Nat):Int):=by omega
     have e4:((N-2-k:Nat):Int)+1=((N-1-k:Nat):Int):=by omega
     have e5:((N-2-k:Nat):Int)-1=(N:Int)-2-((k+1:Nat):Int):=by omega
     rw[e3];refine kw1 kO (kc2 e4 e5) (kc1 c1) ?_;refine⟨k+1,?_,kN kc0 [],?_⟩
     ·omega
     ·omega
    ·have:k=N-1:=by omega
     subst this;refine kw1 kO kc0 kc0 ?_;refine⟨_,_,_,_,rfl,?_⟩;simp(disch:=omega) only[go_sem,simprocAttr,toD]
theorem ZCQ (r:Int):(if(100:Int)<(if r<0 then 0 else r)then(100:Int)else(if r<0 then 0 else r))=(ZgG r:Int):=by
 rw[ZgG];split<;>split<;>omega
theorem ZwJ (a:Lv)(r:Int)(hw:wide a)(har:a.2.2.1.length<=700):Zaa Tryz.prog 103 [lvD a, .int r] (.tup [lvD (Zle a r).1, .int (Zle a r).2]):=by
 have h1:=Zgh a hw;rw[Zle];rcases hv:Zar a with _|_<;>rw[hv]at h1
 ·rw[if_neg (by decide)];refine kE Tryz.func103 ?_;intro hat B X w0;refine kw1 kO kc0 (kc1 h1) ?_;refine⟨_,rfl,⟨_,_,_,_,rfl,?_⟩,Zai rfl,trivial⟩;simp(disch:=omega) only[go_sem,simprocAttr,toD];rfl
 ·rw[if_pos rfl];obtain⟨t1,t2⟩:=ZcV hv;have h2:=ZxO a hv;have hk:=Zoh hv hw;have h3:∀k,Zaa Tryz.prog 166 [lvD (Zc9 a k)] (lvD (Zc9 a (k+1))):=λ k=>ZER _ (hk k).wd (hk k).ok (by rw[(hk k).arcs];exact har)
  have h4:∀k,Zaa Tryz.prog 105 [lvD (Zc9 a k)] (.int (Zbc (Zc9 a k))):=λ k=>ZpP _ (hk k).wd (by rw[(hk k).len];omega)
  have hbs:∀k,Zbx a (k+1)=if Zbc (Zc9 a (k+1))<Zbc (Zbx a k)then Zc9 a (k+1)else Zbx a k:=λ _=>rfl
  have hb0:Zbx a 0=Zc9 a 0:=rfl;have hn0:Zc9 a 0=a:=rfl;have hre:=ZCQ r;have hr100:ZgG r<=100:=by rw[ZgG];omega
  dsimp only;generalize ZgG r=R at*;rw[<-hn0]at h1 h2;rw[show a=Zc9 a 0 from rfl];rw[show Zbx (Zc9 a 0)=Zbx a from rfl];clear hk hn0;generalize Zc9 a=W at*;generalize Zbx a=Bs at*;refine kE Tryz.func103 ?_;intro hat B X w0;have h40:=h4 0;refine kw1 kO (kc1 hre) (kc3 h1 h2 h40) ?_;refine Zaf (λ(k:Nat)=>k<=R) (λ k=>[(2, .ptr 2 0 0 0),(4, .ptr 4 0 0 0),(6, .ptr 6 0 0 0),(7, .int (Zbc (Bs k))),(20, .int R),(21, .int k)]) (λ k=>[(2, .cells [.int (W k).1, .d (Zae (W k).2.1), .d (Zaj (W k).2.2.1), .d (Zae (W k).2.2.2)]),(4, .cells [.int 0, .nilS, .nilS, .nilS]),(6, .cells [.int (Bs k).1, .d (Zae (Bs k).2.1), .d (Zaj (Bs k).2.2.1), .d (Zae (Bs k).2.2.2)])]) (λ k=>R-k) 0 ?_ ?_ ?_
  ·exact uH _
  ·exact kN (kc1 hb0) []
  ·intro k hk;rcases uE k R with hlt|hge
   ·have c1:=h3 k;have c2:=h4 (k+1);have e1:=hbs k;by_cases c:Zbc (W (k+1))<Zbc (Bs k)
    ·rw[if_pos c]at e1;refine kw1 kO (kc1 c) (kc2 c1 c2) ?_;refine⟨k+1,?_,kN (kc1 e1) [],?_⟩
     ·omega
     ·omega
    ·rw[if_neg c]at e1;refine kw1 kO (kc1 c) (kc2 c1 c2) ?_;refine⟨k+1,?_,kN (kc1 e1) [],?_⟩
     ·omega
     ·omega
   ·have:k=R:=by omega
    subst this;refine kw1 kO kc0 kc0 ?_;refine⟨_,rfl,⟨_,_,_,_,rfl,?_⟩,Zai rfl,trivial⟩;simp(disch:=omega) only[go_sem,simprocAttr,toD]
end Go.Proofs.YtjjbhjnpeenbkaaGreatDoor
