/- Levels built by the reference: the walk. -/
import Derived.Test.YtjjbhjnpeenbkaaGreatDoorTypes
set_option linter.unusedSimpArgs false
set_option linter.unusedVariables false
set_option maxHeartbeats 16000000
namespace Go.Proofs.YtjjbhjnpeenbkaaGreatDoor
open Go Go.PS Go.Proofs
set_option maxRecDepth 100000
attribute [local irreducible] Zac wpG Zaa Zag
theorem Zgo (r:List Int):∀d,d∈List.map D.int r->d.cells.length=1:=by
 intro d hd;obtain⟨x,_,rfl⟩:=uN.1 hd;rfl
def hiN (r:List Int):Nat->Int
 |0=>-1
 |k+1=>max (hiN r k) (at0 r k)
theorem Zsm {r:List Int}(h:∀v:Nat,0<=at0 r v):∀k:Nat,hiN r (k+1)=Zcz r k
 |0=>by
  have h0:=h 0;show max (-1) (at0 r ((0:Nat):Int))=at0 r ((0:Nat):Int);omega
 |k+1=>by rw[hiN,Zsm h k,Zcz]
def ZbE (all:List Int)(k:Nat):List (List Int):=(List.range k).map λ j=>ZaV all j
theorem Zvs (all:List Int)(k:Nat):ZbE all (k+1)=ZbE all k++[ZaV all k]:=by simp[ZbE,gB]
theorem Zl0 (all:List Int)(k:Nat):(ZbE all k).length=k:=by simp[ZbE]
theorem ZwV (n:Nat)(l:List Arc)(r:List Int)(hrn:r.length=n)(hn:n<=64)(hl:l.length<=256)(g4:∀(k:Nat) (a:Arc),l[k]? =some a->0<=a.1/\a.1<n/\0<=a.2/\a.2<n)
  (h5:∀v:Nat,0<=at0 r v/\at0 r v<=255)(hgap:∀(k:Nat) a,l[k]? =some a->0<=at0 r a.2-at0 r a.1-1)(hbig:(n:Int)+ZaW r l l.length<=512):
  Zaa Tryz.prog 113 [gD (n,l),Zab r] (lvD (ZeH (n,l) r)):=by
 have allR_len:∀e,e<=l.length->(Zaz r l e).length<=512:=λ e he=>by
  have h1:=Zk5 hgap e he;have h2:=ZrN hgap l.length e he;omega
 have hA0:Zaz r l 0=r:=by simp[Zaz]
 refine kE Tryz.func113 ?_;intro hat B X w0;refine kw1 (kow (Nat.beq 20) (b:=true)) (kc1 hrn) kc0 ?_;refine Zas _ (Zcy 5 1 905 1 rfl rfl rfl) ?_;refine Zas _ (Zcy 5 2 901 2 rfl rfl rfl) ?_;refine Zas _ (Zcy 5 3 902 1 rfl rfl rfl) ?_;refine Zaf (λ(e:Nat)=>e<=l.length) (λ e=>[(1, .d (Zab r)),(2, .ptr 2 0 0 0),(4, .ptr 4 0 0 0),(5, .ptr 5 0 0 0),(6, .ref 904 1 0 (Zaz r l e).length (Zaz r l e).length),(7, .int e)]) (λ e=>[(2, .cells [.int n, .d (Zak l)]),(4, .cells [.int 0, .nilS, .nilS, .nilS]),(5, .cells [.int n, .ref 905 1 0 0 0, .ref 901 2 0 (ZaP r l e).length (ZaP r l e).length, .ref 902 1 0 (Za2 r l e).length (Za2 r l e).length]),(905, .row 1 []),(901, .row 2 ((ZaP r l e).map ZaZ)),(902, .row 1 ((Za2 r l e).map Zab)),(904, .row 1 ((Zaz r l e).map D.int))]) (λ e=>l.length-e) 0 ?_ ?_ ?_
 ·exact uI _
 ·exact kN (kc2 hA0 hrn) [(904,22)]
 ·intro e he;rcases uF e l.length with hel|hel
  ·obtain⟨a,ha⟩:=Zad hel;have hai:=g4 e a ha;have hga:=hgap e a ha;have e1:=Zdu (r:=r) (v:=a.1) hai.1 (by omega);have e2:=Zdu (r:=r) (v:=a.2) hai.2.2.1 (by omega);have f1:=h5 a.1.toNat;have f2:=h5 a.2.toNat;rw[show((a.1.toNat:Nat):Int)=a.1 by omega]at f1;rw[show((a.2.toNat:Nat):Int)=a.2 by omega]at f2;have hgn:(ZaE r a:Int)=at0 r a.2-at0 r a.1-1:=by rw[ZaE];omega
   have hall:=ZiZ (r:=r) ha;have hal:=allR_len e he;have hafl:=ZlG hgap e he;generalize hA:Zaz r l e=all at hal hall hafl
   try dsimp only
   try rw[hA]
   refine kw1 (kow (Nat.beq 37) (b:=true)) (kc3 ha e1 hrn) kc0 ?_;refine Zaf (λ(u:Nat)=>u<=ZaE r a) (λ u=>[(1, .d (Zab r)),(2, .ptr 2 0 0 0),(4, .ptr 4 0 0 0),(5, .ptr 5 0 0 0),(6, .ref 904 1 0 (all.length+u) (all.length+u)),(7, .int e),(8, .ptr 8 0 0 0),(9, .ref 903 1 0 (u+1) (u+1)),(10, .int (at0 r a.1+1+u))]) (λ u=>[(2, .cells [.int n, .d (Zak l)]),(4, .cells [.int 0, .nilS, .nilS, .nilS]),(8, .cells [.int a.1, .int a.2]),(5, .cells [.int n, .ref 905 1 0 0 0, .ref 901 2 0 (ZaP r l e).length (ZaP r l e).length, .ref 902 1 0 (Za2 r l e).length (Za2 r l e).length]),(905, .row 1 []),(901, .row 2 ((ZaP r l e).map ZaZ)),(902, .row 1 ((Za2 r l e).map Zab)),(904, .row 1 ((all++Zal r a u).map D.int)),(903, .row 1 ((Zcr all.length a u).map D.int))]) (λ u=>ZaE r a-u) 0 ?_ ?_ ?_
   ·exact uI _
   ·exact kN (kc5 @Zcr.eq_1 @Zal.eq_1 @kS @yQ.{0} hA) [(903,37)]
   ·intro u hu;have hcl:=Zg0 all.length a u;have hnl:=ZgM r a u;have htk:((Zcr all.length a u).map D.int).take (u+1)=(Zcr all.length a u).map D.int:=uG (by rw[uD,hcl];exact uH _);have hta:((all++Zal r a u).map D.int).take (all.length+u)=(all++Zal r a u).map D.int:=uG (by rw[uD,uC,hnl];exact uH _);rcases uF u (ZaE r a)with hul|hul
    ·have hcs:=ZsC all.length a u;have hns:=Zsi r a u;have hap:all++Zal r a (u+1)=(all++Zal r a u)++[at0 r a.1+1+u]:=by rw[hns,yO]
     have hlu:(all++Zal r a u).length=all.length+u:=by rw[uC,hnl]
     generalize all++Zal r a u=G at*;generalize Zcr all.length a u=c at*;refine kw1 kO (kc6 e2 hrn hcl htk hta hlu) kc0 ?_;refine⟨u+1,?_,eL [(903,57),(904,61)] _ _ (by refine⟨?_,?_⟩<;>(repeat' first|exact fmn|refine fmc ⟨(by first|rfl|(simp(disch:=omega) only[go_sem,simprocAttr,inL,hcs,hap,uU,qN,gQ,<-zI,uC,hcl,hlu];first|done|omega|(congr 1;done))),?_⟩);done),?_⟩
     ·omega
     ·omega
    ·have:u=ZaE r a:=by omega
     subst this;have hcd:ZaD r all.length a=Zcr all.length a (ZaE r a)++[a.2]:=rfl;have hcl2:=Zor r all.length a;refine kw1 kP (kc4 e2 hrn hcl htk) kc0 ?_;refine Zaf (λ(j:Nat)=>j<=ZaE r a+1) (λ j=>[(1, .d (Zab r)),(2, .ptr 2 0 0 0),(4, .ptr 4 0 0 0),(5, .ptr 5 0 0 0),(6, .ref 904 1 0 (all.length+ZaE r a) (all.length+ZaE r a)),(7, .int e),(8, .ptr 8 0 0 0),(9, .ref 903 1 0 (ZaE r a+2) (ZaE r a+2)),(11, .int ((j:Int)+1))]) (λ j=>[(2, .cells [.int n, .d (Zak l)]),(4, .cells [.int 0, .nilS, .nilS, .nilS]),(8, .cells [.int a.1, .int a.2]),(5, .cells [.int n, .ref 905 1 0 0 0, .ref 901 2 0 (ZaP r l e++ZbJ (ZaD r all.length a) j).length (ZaP r l e++ZbJ (ZaD r all.length a) j).length, .ref 902 1 0 (Za2 r l e).length (Za2 r l e).length]),(905, .row 1 []),(901, .row 2 ((ZaP r l e++ZbJ (ZaD r all.length a) j).map ZaZ)),(902, .row 1 ((Za2 r l e).map Zab)),(904, .row 1 ((all++Zal r a (ZaE r a)).map D.int)),(903, .row 1 ((ZaD r all.length a).map D.int))]) (λ j=>ZaE r a+1-j) 0 ?_ ?_ ?_
     ·exact uI _
     ·exact kN (kc5 hcd @uU.{0,0} @ZbJ.eq_1 @kS @yQ.{0}) [(903,66)]
     ·intro j hj;have hpl:=ZlR (ZaD r all.length a) j;rcases uF j (ZaE r a+1)with hjl|hjl
      ·have gc1:=ZaK (r:=ZaD r all.length a) (i:=j) (by omega);have gc2:=ZaK (r:=ZaD r all.length a) (i:=j+1) (by omega);have en:((j:Int)+1).toNat=j+1:=by omega
       have hps:=ZrH (ZaD r all.length a) j;have hpa:ZaZ (Zgs (ZaD r all.length a) j)= .ag [.int (at0 (ZaD r all.length a) j), .int (at0 (ZaD r all.length a) ((j+1:Nat):Int))]:=rfl;have hap:ZaP r l e++ZbJ (ZaD r all.length a) (j+1)=(ZaP r l e++ZbJ (ZaD r all.length a) j)++[Zgs (ZaD r all.length a) j]:=by rw[hps,yO]
       have hal2:(ZaP r l e++ZbJ (ZaD r all.length a) j).length<=2000:=by rw[uC];omega
       try dsimp only
       generalize ZaD r all.length a=c at*;generalize hG:ZaP r l e++ZbJ c j=G at*;refine kw1 kO (kc6 gc1 gc2 en hcl2 @Ch @Zat) kc0 ?_;refine⟨j+1,?_,kN (kc8 hap @uU.{0,0} @uC.{0} @uX.{0} @uZ.{0} hpa @qN @gQ) [(901,86)],?_⟩
       ·omega
       ·omega
      ·have:j=ZaE r a+1:=by omega
       subst this;have hcf:Za2 r l (e+1)=Za2 r l e++[ZaD r all.length a]:=by rw[Za2,Za1,Zje,ha,hA];rfl
       have haf:ZaP r l (e+1)=ZaP r l e++ZbJ (ZaD r all.length a) (ZaE r a+1):=by rw[ZaP,Za1,Zie,ha,hA];rfl
       have hcfl:=Zk1 r l e he;have hnl:=ZgM r a (ZaE r a);have hcd2:((ZaD r all.length a).map D.int).take (ZaE r a+2)=(ZaD r all.length a).map D.int:=uG (by rw[uD,hcl2];exact uH _);have hcft:((Za2 r l e).map Zab).take e=(Za2 r l e).map Zab:=uG (by rw[uD,hcfl];exact uH _);refine Zas _ (Zde 903 1 ((ZaD r all.length a).map D.int) rfl (ZcW _ rfl) (by decide)) ?_;refine kw1 kO (kc5 hcl2 @uD.{0,0} hcd2 hcfl @Zat) kc0 ?_;refine⟨e+1,?_,kN (kc8 hcf haf hall @uU.{0,0} @uC.{0} @uX.{0} @uZ.{0} (kc7 hnl @qN @gQ hcl2 hcd2 hcfl hcft)) [(902,92)],?_⟩
       ·omega
       ·omega
  ·have:e=l.length:=by omega
   subst this;have hal:=allR_len l.length (uH _);have hmd:ZeH (n,l) r=((n:Int),if(n:Int)=0 then[]else(List.range (Zcz r (r.length-1)+1).toNat).map λ k=>ZaV (Zaz r l l.length) k,ZaP r l l.length,Za2 r l l.length):=rfl;rw[hmd];generalize Zaz r l l.length=A at hal|-;generalize ZaP r l l.length=E;generalize Za2 r l l.length=C;refine kw1 kO kc0 kc0 ?_;refine Zaf (λ(v:Nat)=>v<=n) (λ v=>[(1, .d (Zab r)),(2, .ptr 2 0 0 0),(4, .ptr 4 0 0 0),(5, .ptr 5 0 0 0),(6, .ref 904 1 0 A.length A.length),(12, .int (hiN r v)),(13, .int v)]) (λ v=>[(2, .cells [.int n, .d (Zak l)]),(4, .cells [.int 0, .nilS, .nilS, .nilS]),(5, .cells [.int n, .ref 905 1 0 0 0, .ref 901 2 0 E.length E.length, .ref 902 1 0 C.length C.length]),(905, .row 1 ([])),(901, .row 2 (E.map ZaZ)),(902, .row 1 (C.map Zab)),(904, .row 1 (A.map D.int))]) (λ v=>n-v) 0 ?_ ?_ ?_
   ·exact uI _
   ·exact kN (kc1 @hiN.eq_1) []
   ·intro v hv;rcases uF v n with hvn|hvn
    ·have gv:=ZaK (r:=r) (i:=v) (by omega);refine kw1 kO (kc2 gv hrn) kc0 ?_;refine⟨v+1,?_,kN (kc2 @hiN.eq_1 @ZfK) [],?_⟩
     ·omega
     ·omega
    ·have:n=v:=by omega
     subst this;obtain⟨H,hH⟩:∃H:Nat,hiN r n+1=H/\H<=256/\(if(n:Int)=0 then[]else(List.range (Zcz r (r.length-1)+1).toNat).map λ k=>ZaV A k)=ZbE A H:=by
      rcases qT n with h0|h0
      ·refine⟨0,?_,by omega,?_⟩
       ·rw[h0,hiN];rfl
       ·rw[if_pos (by omega)];rfl
      ·obtain⟨m,rfl⟩:∃m,n=m+1:=⟨n-1,by omega⟩;have e1:=Zsm (λ v=>(h5 v).1) m;have e2:=Zlw (λ j=>(h5 j).2) m;have e3:=Ziu r m 0 (by omega);have e4:=h5 0;refine⟨(Zcz r m+1).toNat,by omega,by omega,?_⟩;rw[if_neg (by omega),hrn,kB];rfl
     obtain⟨hH,hH2,hH3⟩:=hH;rw[hH3];generalize hiN r n=hi at hH|-;refine kw1 kO kc0 kc0 ?_;refine Zaf (λ(k:Nat)=>k<=H) (λ k=>[(1, .d (Zab r)),(2, .ptr 2 0 0 0),(4, .ptr 4 0 0 0),(5, .ptr 5 0 0 0),(6, .ref 904 1 0 A.length A.length),(12, .int hi),(14, .int k)]) (λ k=>[(2, .cells [.int n, .d (Zak l)]),(4, .cells [.int 0, .nilS, .nilS, .nilS]),(5, .cells [.int n, .ref 905 1 0 k k, .ref 901 2 0 E.length E.length, .ref 902 1 0 C.length C.length]),(905, .row 1 ((ZbE A k).map Zab)),(901, .row 2 (E.map ZaZ)),(902, .row 1 (C.map Zab)),(904, .row 1 (A.map D.int))]) (λ k=>H-k) 0 ?_ ?_ ?_
     ·exact uI _
     ·exact kN (kc3 @ZbE.eq_1 @kS @yS.{0,0}) []
     ·intro k hk;rcases uF k H with hkH|hkH
      ·have hlk:=Zl0 A k;refine kw1 kO kc0 kc0 ?_;refine Zas _ (ZdV 15 906 1 rfl rfl) ?_;refine Zaf (λ(i:Nat)=>i<=A.length) (λ i=>[(1, .d (Zab r)),(2, .ptr 2 0 0 0),(4, .ptr 4 0 0 0),(5, .ptr 5 0 0 0),(6, .ref 904 1 0 A.length A.length),(12, .int hi),(14, .int k),(15, .ref 906 1 0 (ZaV (A.take i) k).length (ZaV (A.take i) k).length),(16, .int i)]) (λ i=>[(2, .cells [.int n, .d (Zak l)]),(4, .cells [.int 0, .nilS, .nilS, .nilS]),(5, .cells [.int n, .ref 905 1 0 k k, .ref 901 2 0 E.length E.length, .ref 902 1 0 C.length C.length]),(905, .row 1 ((ZbE A k).map Zab)),(901, .row 2 (E.map ZaZ)),(902, .row 1 (C.map Zab)),(904, .row 1 (A.map D.int)),(906, .row 1 ((ZaV (A.take i) k).map D.int))]) (λ i=>A.length-i) 0 ?_ ?_ ?_
       ·exact uI _
       ·exact kN (kc6 @ZaV.eq_1 @qC.{0} @kS @uZ.{0} @zR.{0} @yS.{0,0}) []
       ·intro i hi2;have hll:=ZlH (A.take i) k;rw[uS]at hll;rcases uF i A.length with hiA|hiA
        ·have gi:=ZaK hiA;have hst:ZaV (A.take (i+1)) k=if at0 A i=k then ZaV (A.take i) k++[(i:Int)]else ZaV (A.take i) k:=by
          rw[ZaB gi,Zl5,uS,jF (by omega)]
         generalize ZaV (A.take i) k=L at hst hll|-;by_cases hx:at0 A i=k
         ·rw[if_pos hx]at hst;refine kw1 kO (kc3 gi hx @Zat) kc0 ?_;refine⟨i+1,?_,kN (kc5 hst @uU.{0,0} @uC.{0} @uX.{0} @uZ.{0}) [(906,126)],?_⟩
          ·omega
          ·omega
         ·rw[if_neg hx]at hst;refine kw1 kO (kc2 gi @Zat) kc0 ?_;refine⟨i+1,?_,kN (kc1 hst) [],?_⟩
          ·omega
          ·omega
        ·have:i=A.length:=by omega
         subst this;have hAA:A.take A.length=A:=yF;rw[hAA]at hll;have hls:=Zvs A k;have hlt:((ZbE A k).map Zab).take k=(ZbE A k).map Zab:=uG (by rw[uD,hlk];exact uH _)
         try dsimp only
         rw[hAA];refine Zas _ (Zde 906 1 ((ZaV A k).map D.int) rfl (ZcW _ rfl) (by decide)) ?_;refine kw1 kO (kc3 @uD.{0,0} hlk @Zat) kc0 ?_;refine⟨k+1,?_,kN (kc8 hls @uU.{0,0} @uC.{0} @uX.{0} @uZ.{0} hlk hlt (kc2 @qN @gQ)) [(905,131)],?_⟩
         ·omega
         ·omega
      ·have:k=H:=by omega
       subst this;have hlk:=Zl0 A k;refine kw1 kO kc0 kc0 ?_;have hlt:((ZbE A k).map Zab).take k=(ZbE A k).map Zab:=uG (by rw[uD,hlk];exact uH _);refine⟨_,_,_,_,rfl,?_⟩;simp(disch:=omega) only[go_sem,simprocAttr,toD,hlk,hlt,Zat]
theorem ZyG (g:Gr)(r:List Int)(h:gOk g=false\/(r.length:Int)≠g.1):Zaa Tryz.prog 55 [gD g,Zab r] (.tup [lvD lv0, .int 1]):=by
 have hv:=ZiY g;rcases h1:gOk g with _|_<;>rw[h1]at hv
 ·refine kE Tryz.func55 ?_;intro hat B X w0;refine kw1 kO kc0 (kc1 hv) ?_
  all_goals
   refine⟨_,rfl,⟨_,_,_,_,rfl,?_⟩,Zah ?_,trivial⟩
   ·simp(disch:=omega) only[go_sem,simprocAttr,toD];rfl
   ·rfl
 ·have h2:(r.length:Int)≠g.1:=by
   rcases h with h|h
   ·rw[h1]at h;exact absurd h (by decide)
   ·exact h
  refine kE Tryz.func55 ?_;intro hat B X w0;have hl:=ZaU 1 hat rfl;rw[uD]at hl;refine kw1 kO (kc1 h2) (kc1 hv) ?_
  all_goals
   refine⟨_,rfl,⟨_,_,_,_,rfl,?_⟩,Zah ?_,trivial⟩
   ·simp(disch:=omega) only[go_sem,simprocAttr,toD];rfl
   ·rfl
theorem Zui (g:Gr)(r:List Int)(h1:gOk g=true)(h2:(r.length:Int)=g.1):Zaa Tryz.prog 55 [gD g,Zab r] (.tup [lvD (ZaG g r).1, .int (ZaG g r).2]):=by
 have hv:=ZiY g;obtain⟨g1,g2,g3,g4⟩:=Zid h1;have hbf:ZaG g r=if r.any Zc1 then(lv0,1)else if g.2.any ZdA then(lv0,8)else if g.2.any (ZcB r)then(lv0,3)else if 512<g.1+ZaW r g.2 g.2.length then(lv0,2)else(ZeH g r,0):=by
  rw[ZaG,ZdN,h1];cases r.any Zc1<;>simp[h2]
 rw[h1]at hv;obtain⟨m,l⟩:=g;dsimp only at g1 g2 g3 g4 h2 hbf;obtain⟨n,rfl⟩:∃n:Nat,m=n:=⟨m.toNat,by omega⟩;have hrn:r.length=n:=by omega
 refine kE Tryz.func55 ?_;intro hat B X w0;refine kw1 kO (kc1 hrn) (kc1 hv) ?_;refine Zaf (λ(k:Nat)=>k<=n/\∀(j:Nat) y,j<k->r[j]? =some y->Zc1 y=false) (λ k=>[(1, .d (Zab r)),(2, .ptr 2 0 0 0),(4, .ptr 4 0 0 0),(6, .int k)]) (λ k=>[(2, .cells [.int n, .d (Zak l)]),(4, .cells [.int 0, .nilS, .nilS, .nilS])]) (λ k=>n-k) 0 ?_ ?_ ?_
 ·exact⟨uI _,λ j y h=>by omega⟩
 ·exact kN kc0 []
 ·rintro k ⟨hk,hinv⟩;rcases uF k n with hlt|hge
  ·have gk:=ZaK (r:=r) (i:=k) (by omega);rcases hrb:Zc1 (at0 r k)with _|_
   ·have hb:0<=at0 r k/\at0 r k<=255:=by
     simp only[Zc1,qA]at hrb;omega
    refine kw1 kO (kc2 gk hrn) kc0 ?_;refine⟨k+1,?_,kN kc0 [],?_⟩
    ·exact⟨by omega,Zbe hinv gk hrb⟩
    ·omega
   ·have hany:r.any Zc1=true:=Zb8 gk hrb;rw[hbf,if_pos hany];simp only[Zc1,uE]at hrb;refine kw kO (kc2 gk hrn) kc0 ?_
    repeat' first|exact True.intro|refine Bn.mk ?_ ?_|intro hc
    all_goals
     refine⟨_,rfl,⟨_,_,_,_,rfl,?_⟩,Zah ?_,trivial⟩
     ·simp(disch:=omega) only[go_sem,simprocAttr,toD];rfl
     ·rfl
  ·have:n=k:=by omega
   subst this;have hany:r.any Zc1=false:=Zcq λ j y hj=>hinv j y (by omega)
   have hrk:ZdN ((n:Int),l) r=true:=by simp[ZdN,h1,hrn,hany]
   obtain⟨_,_,_,h5⟩:=Zlh hrk;have hsum:=Zny (r:=r) (l:=l) h5 (λ k a ha=>by have:=g4 k a ha;omega);rw[hany]at hbf;simp only[qE,gV]at hbf;refine kw1 kO kc0 kc0 ?_;refine Zaf (λ(k:Nat)=>k<=l.length/\∀(j:Nat) y,j<k->l[j]? =some y->ZdA y=false) (λ k=>[(1, .d (Zab r)),(2, .ptr 2 0 0 0),(4, .ptr 4 0 0 0),(7, .int k)]) (λ k=>[(2, .cells [.int n, .d (Zak l)]),(4, .cells [.int 0, .nilS, .nilS, .nilS])]) (λ k=>l.length-k) 0 ?_ ?_ ?_
   ·exact⟨uI _,λ j y h=>by omega⟩
   ·exact kN kc0 []
   ·rintro k ⟨hk,hinv⟩;rcases uF k l.length with hlt|hge
    ·obtain⟨a,ha⟩:=Zad hlt;rcases hlf:ZdA a with _|_
     ·have hne:¬a.1=a.2:=by simpa[ZdA]using hlf
      refine kw1 kO (kc1 ha) kc0 ?_;refine⟨k+1,?_,kN kc0 [],?_⟩
      ·exact⟨by omega,Zbe hinv ha hlf⟩
      ·omega
     ·have hany:l.any ZdA=true:=Zb8 ha hlf;have hne:a.1=a.2:=by simpa[ZdA]using hlf
      rw[hbf,if_pos hany];refine kw1 kO (kc1 ha) kc0 ?_;refine⟨_,rfl,⟨_,_,_,_,rfl,?_⟩,Zah ?_,trivial⟩
      ·simp(disch:=omega) only[go_sem,simprocAttr,toD];rfl
      ·rfl
    ·have:k=l.length:=by omega
     subst this;have hany:l.any ZdA=false:=Zcq λ j y hj=>hinv j y (by omega)
     rw[hany]at hbf;simp only[qE,gV]at hbf;refine kw1 kO kc0 kc0 ?_;refine Zaf (λ(k:Nat)=>k<=l.length/\∀(j:Nat) y,j<k->l[j]? =some y->ZcB r y=false) (λ k=>[(1, .d (Zab r)),(2, .ptr 2 0 0 0),(4, .ptr 4 0 0 0),(8, .int (n+ZaW r l k)),(9, .int k)]) (λ k=>[(2, .cells [.int n, .d (Zak l)]),(4, .cells [.int 0, .nilS, .nilS, .nilS])]) (λ k=>l.length-k) 0 ?_ ?_ ?_
     ·exact⟨uI _,λ j y h=>by omega⟩
     ·exact kN (kc2 @ZaW.eq_1 @jT) []
     ·rintro k ⟨hk,hinv⟩;have hsk:=hsum k;rcases uF k l.length with hlt|hge
      ·obtain⟨a,ha⟩:=Zad hlt;have hai:=g4 k a ha;have e1:=Zdu (r:=r) (v:=a.1) hai.1 (by omega);have e2:=Zdu (r:=r) (v:=a.2) hai.2.2.1 (by omega);have f1:=h5 a.1.toNat;have f2:=h5 a.2.toNat;rw[show((a.1.toNat:Nat):Int)=a.1 by omega]at f1;rw[show((a.2.toNat:Nat):Int)=a.2 by omega]at f2;have hss:ZaW r l (k+1)=ZaW r l k+(at0 r a.2-at0 r a.1-1):=by rw[ZaW,ha]
       rcases hup:ZcB r a with _|_
       ·have hup2:=hup;rw[ZcB,qA]at hup2;refine kw1 kO (kc4 ha e1 e2 hrn) kc0 ?_;refine⟨k+1,?_,kN (kc2 hss @zI) [],?_⟩
        ·exact⟨by omega,Zbe hinv ha hup⟩
        ·omega
       ·have hany:l.any (ZcB r)=true:=Zb8 ha hup;rw[ZcB,uE]at hup;rw[hbf,if_pos hany];refine kw1 kO (kc4 ha e1 e2 hrn) kc0 ?_;refine⟨_,rfl,⟨_,_,_,_,rfl,?_⟩,Zah ?_,trivial⟩
        ·simp(disch:=omega) only[go_sem,simprocAttr,toD];rfl
        ·rfl
      ·have:k=l.length:=by omega
       subst this;have hany:l.any (ZcB r)=false:=Zcq λ j y hj=>hinv j y (by omega)
       rw[hbf,if_neg (by rw[hany];decide)];by_cases hbig:512<(n:Int)+ZaW r l l.length
       ·rw[if_pos hbig];refine kw1 kO kc0 kc0 ?_;refine⟨_,rfl,⟨_,_,_,_,rfl,?_⟩,Zah ?_,trivial⟩
        ·simp(disch:=omega) only[go_sem,simprocAttr,toD];rfl
        ·rfl
       ·rw[if_neg hbig];have hgap:∀(k:Nat) a,l[k]? =some a->0<=at0 r a.2-at0 r a.1-1:=λ k a ha=>by
         have:=yR.1 hany a (uA ha);rw[ZcB,uE]at this;omega
        have hm:=ZwV n l r hrn (by omega) g3 g4 h5 hgap (by omega);refine kw1 kO kc0 (kc1 hm) ?_;refine⟨_,rfl,⟨_,_,_,_,rfl,?_⟩,Zah ?_,trivial⟩
        ·simp(disch:=omega) only[go_sem,simprocAttr,toD]
        ·rfl
theorem ZA0 (g:Gr)(r:List Int):Zaa Tryz.prog 55 [gD g,Zab r] (.tup [lvD (ZaG g r).1, .int (ZaG g r).2]):=by
 by_cases h:gOk g=true/\(r.length:Int)=g.1
 ·exact Zui g r h.1 h.2
 ·have hr:ZdN g r=false:=by
   rw[ZdN];rcases h1:gOk g with _|_
   ·simp
   ·have h2:¬(r.length:Int)=g.1:=λ h2=>h ⟨h1,h2⟩
    simp[h2]
  have e:ZaG g r=(lv0,1):=by rw[ZaG,if_pos hr]
  rw[e];refine ZyG g r ?_;rcases h1:gOk g with _|_
  ·exact .inl rfl
  ·exact .inr λ h2=>h ⟨h1,h2⟩
theorem Zzx (l m:List Int):Zaa Tryz.prog 140 [Zab l,Zab m] (.bool (decide (l=m))):=by
 refine kE Tryz.func140 ?_;intro hat B X w0;have hl:=ZaU 0 hat rfl;have hm:=ZaU 1 hat rfl;rw[uD]at hl hm;by_cases hlm:l.length=m.length
 ·refine kw1 kO kc0 kc0 ?_;refine Zaf (λ(k:Nat)=>k<=l.length/\l.take k=m.take k) (λ k=>[(0, .d (Zab l)),(1, .d (Zab m)),(5, .int k)]) (λ k=>[]) (λ k=>l.length-k) 0 ?_ ?_ ?_
  ·exact⟨uI _,rfl⟩
  ·exact kN kc0 []
  ·rintro k ⟨hk,hinv⟩;rcases uF k l.length with hlt|hge
   ·obtain⟨p,hp⟩:=Zad hlt;obtain⟨q,hq⟩:=Zad (hlm▸hlt);refine kw kO (kc2 hp hq) kc0 ?_
    repeat' first|exact True.intro|refine Bn.mk ?_ ?_|intro hc
    ·refine Zaj ?_;rw[yE (ZgQ hp hq hc)]
    ·refine⟨k+1,?_,eL [] _ _ (by refine⟨?_,?_⟩<;>(repeat' first|exact fmn|refine fmc ⟨(by first|rfl|(simp(disch:=omega) only[go_sem,simprocAttr,inL];first|done|omega|(congr 1;done))),?_⟩);done),?_⟩
     ·exact⟨by omega,by rw[ZaB hp,ZaB hq,hinv,hc]⟩
     ·omega
   ·refine kw1 kO kc0 kc0 ?_;refine Zaj ?_;rw[uG hge,uG (by omega)]at hinv;simp[hinv]
 ·refine kw1 kO kc0 kc0 ?_;refine Zaj ?_;rw[yE];rintro rfl;exact hlm rfl
theorem ZsP (l m:List (List Int)):Zaa Tryz.prog 83 [Zae l,Zae m] (.bool (decide (l=m))):=by
 refine kE Tryz.func83 ?_;intro hat B X w0;have hl:=ZaU 0 hat rfl;have hm:=ZaU 1 hat rfl;rw[uD]at hl hm;by_cases hlm:l.length=m.length
 ·refine kw1 kO kc0 kc0 ?_;refine Zaf (λ(k:Nat)=>k<=l.length/\l.take k=m.take k) (λ k=>[(0, .d (Zae l)),(1, .d (Zae m)),(5, .int k)]) (λ k=>[]) (λ k=>l.length-k) 0 ?_ ?_ ?_
  ·exact⟨uI _,rfl⟩
  ·exact kN kc0 []
  ·rintro k ⟨hk,hinv⟩;rcases uF k l.length with hlt|hge
   ·obtain⟨p,hp⟩:=Zad hlt;obtain⟨q,hq⟩:=Zad (hlm▸hlt);have he:=Zzx p q;by_cases hpq:p=q
    ·rw[yN hpq]at he;refine kw1 kO (kc2 hp hq) (kc1 he) ?_;refine⟨k+1,?_,kN kc0 [],?_⟩
     ·exact⟨by omega,by rw[ZaB hp,ZaB hq,hinv,hpq]⟩
     ·omega
    ·rw[yE hpq]at he;refine kw1 kO (kc2 hp hq) (kc1 he) ?_;refine Zaj ?_;rw[yE (ZgQ hp hq hpq)]
   ·refine kw1 kO kc0 kc0 ?_;refine Zaj ?_;rw[uG hge,uG (by omega)]at hinv;simp[hinv]
 ·refine kw1 kO kc0 kc0 ?_;refine Zaj ?_;rw[yE];rintro rfl;exact hlm rfl
theorem Ztf (l m:List (List Int)):Zaa Tryz.prog 171 [Zae l,Zae m] (.bool (decide (l=m))):=by
 have h:=ZzV l m;refine kE Tryz.func171 ?_;intro hat B X w0;refine kw1 kO kc0 (kc1 h) ?_;exact Zaj rfl
def ZeY (a b:Lv):Bool:=decide (a.1=b.1)&&decide (a.2.1=b.2.1)&&decide (a.2.2.1=b.2.2.1)&&decide (a.2.2.2=b.2.2.2)
theorem Zli {a b:Lv}:ZeY a b=true↔a=b:=by
 obtain⟨a1,a2,a3,a4⟩:=a;obtain⟨b1,b2,b3,b4⟩:=b;simp[ZeY,Prod.ext_iff,and_assoc]
theorem ZxV (a b:Lv):Zaa Tryz.prog 107 [lvD a,lvD b] (.bool (ZeY a b)):=by
 have h1:=Ztf a.2.1 b.2.1;have h2:=Zz7 a.2.2.1 b.2.2.1;have h3:=Ztf a.2.2.2 b.2.2.2;rw[ZeY];by_cases e:a.1=b.1
 ·rw[yN e];rcases e1:decide (a.2.1=b.2.1)with _|_<;>rw[e1]at h1<;>rcases e2:decide (a.2.2.1=b.2.2.1)with _|_<;>rw[e2]at h2<;>rcases e3:decide (a.2.2.2=b.2.2.2)with _|_<;>rw[e3]at h3
  all_goals
   refine kE Tryz.func107 ?_;intro hat B X w0;refine kw1 kO (kc1 e) (kc3 h1 h2 h3) ?_;exact Zaj rfl
 ·rw[yE e];refine kE Tryz.func107 ?_;intro hat B X w0;refine kw1 kO (kc1 e) (kc3 h1 h2 h3) ?_;exact Zaj rfl
theorem ZAF (a b:Lv):Zaa Tryz.prog 35 [lvD a,lvD b] (.bool (ZeY a b)):=by
 have h1:=ZsP a.2.1 b.2.1;have h3:=ZsP a.2.2.2 b.2.2.2;obtain⟨a1,a2,a3,a4⟩:=a;obtain⟨b1,b2,b3,b4⟩:=b;dsimp only[ZeY]at*;have fl:∀x:Bool,x=false->Zaa Tryz.prog 35 [lvD (a1,a2,a3,a4),lvD (b1,b2,b3,b4)] (.bool false)->Zaa Tryz.prog 35 [lvD (a1,a2,a3,a4),lvD (b1,b2,b3,b4)] (.bool x):=λ x hx h=>hx▸h
 by_cases e:a1=b1/\a3.length=b3.length
 ·obtain⟨rfl,e2⟩:=e;rcases e1:decide (a2=b2)with _|_
  ·rw[e1]at h1;refine fl _ (by simp) ?_;refine kE Tryz.func35 ?_;intro hat B X w0;have hla:=ZbZ 0 2 hat rfl rfl;have hlb:=ZbZ 1 2 hat rfl rfl;rw[uD]at hla hlb;dsimp only at hla hlb;refine kw1 kO (kc1 e2) (kc2 h1 h3) ?_;exact Zaj rfl
  ·rw[e1]at h1;rcases e4:decide (a4=b4)with _|_
   ·rw[e4]at h3;refine fl _ (by simp) ?_;refine kE Tryz.func35 ?_;intro hat B X w0;have hla:=ZbZ 0 2 hat rfl rfl;have hlb:=ZbZ 1 2 hat rfl rfl;rw[uD]at hla hlb;dsimp only at hla hlb;refine kw1 kO (kc1 e2) (kc2 h1 h3) ?_;exact Zaj rfl
   ·rw[e4]at h3;have er:(decide (a1=a1)&&true&&decide (a3=b3)&&true)=decide (a3=b3):=by simp
    rw[er];refine kE Tryz.func35 ?_;intro hat B X w0;have hla:=ZbZ 0 2 hat rfl rfl;have hlb:=ZbZ 1 2 hat rfl rfl;rw[uD]at hla hlb;dsimp only at hla hlb;refine kw1 kO (kc1 e2) (kc2 h1 h3) ?_;refine Zaf (λ(k:Nat)=>k<=a3.length/\a3.take k=b3.take k) (λ k=>[(2, .ptr 2 0 0 0),(3, .ptr 3 0 0 0),(5, .int k)]) (λ k=>[(2, .cells [.int a1, .d (Zae a2), .d (Zak a3), .d (Zae a4)]),(3, .cells [.int a1, .d (Zae b2), .d (Zak b3), .d (Zae b4)])]) (λ k=>a3.length-k) 0 ?_ ?_ ?_
    ·exact⟨uI _,rfl⟩
    ·exact kN kc0 []
    ·rintro k ⟨hk,hinv⟩;rcases uF k a3.length with hlt|hge
     ·obtain⟨p,hp⟩:=Zad hlt;obtain⟨q,hq⟩:=Zad (e2▸hlt);refine kw kO (kc3 hp hq @ZpU) kc0 ?_
      repeat' first|exact True.intro|refine Bn.mk ?_ ?_|intro hc
      ·refine Zaj ?_;rw[yE (ZgQ hp hq hc)]
      ·refine⟨k+1,?_,eL [] _ _ (by refine⟨?_,?_⟩<;>(repeat' first|exact fmn|refine fmc ⟨(by first|rfl|(simp(disch:=omega) only[go_sem,simprocAttr,inL];first|done|omega|(congr 1;done))),?_⟩);done),?_⟩
       ·exact⟨by omega,by rw[ZaB hp,ZaB hq,hinv,hc]⟩
       ·omega
     ·refine kw1 kO kc0 kc0 ?_;refine Zaj ?_;rw[uG hge,uG (by omega)]at hinv;simp[hinv]
 ·refine fl _ ?_ ?_
  ·rcases gT (a1=b1)with h|h
   ·have h2:¬a3=b3:=λ h2=>e ⟨h,by rw[h2]⟩
    simp[h2]
   ·simp[h]
  ·refine kE Tryz.func35 ?_;intro hat B X w0;have hla:=ZbZ 0 2 hat rfl rfl;have hlb:=ZbZ 1 2 hat rfl rfl;rw[uD]at hla hlb;dsimp only at hla hlb;by_cases h:a1=b1
   ·have h2:¬a3.length=b3.length:=λ h2=>e ⟨h,h2⟩
    refine kw1 kO (kc1 h) (kc2 h1 h3) ?_;exact Zaj rfl
   ·refine kw1 kO (kc1 h) (kc2 h1 h3) ?_;exact Zaj rfl
def ZaN (ls:List (List Int))(v:Int):Int:=ZcT (ls.findIdx? λ y=>y.any λ x=>decide (x=v))
def ZmH (ls:List (List Int))(v:Int):Int:=match ls.findIdx? (λ y=>y.any λ x=>decide (x=v))with
 |some k=>placeF ((ls[k]?).getD []) v
 |none=>-1
theorem Zs7 (l:List Int)(v:Int):decide (0<=placeF l v)=l.any λ x=>decide (x=v):=Zhs _ l
theorem ZlD (a:Lv)(v:Int):Zaa Tryz.prog 106 [lvD a, .int v] (.tup [.int (ZaN a.2.1 v), .int (ZmH a.2.1 v)]):=by
 obtain⟨n,ls,ar,cs⟩:=a;refine kE Tryz.func106 ?_;intro hat B X w0;have hl:=ZbZ 0 1 hat rfl rfl;rw[uD]at hl;dsimp only at hl;refine kw1 kO kc0 kc0 ?_;refine Zaf (λ(k:Nat)=>k<=ls.length/\∀(j:Nat) y,j<k->ls[j]? =some y->(y.any λ x=>decide (x=v))=false) (λ k=>[(1, .int v),(2, .ptr 2 0 0 0),(10, .d (Zae ls)),(11, .int ls.length),(12, .int k)]) (λ k=>[(2, .cells [.int n, .d (Zae ls), .d (Zak ar), .d (Zae cs)])]) (λ k=>ls.length-k) 0 ?_ ?_ ?_
 ·exact⟨uI _,λ j y h=>by omega⟩
 ·exact kN kc0 []
 ·rintro k ⟨hk,hinv⟩;rcases uF k ls.length with hlt|hge
  ·obtain⟨p,hp⟩:=Zad hlt;have hix:=Zkh p v;have hpi:=Zs7 p v;by_cases h0:0<=placeF p v
   ·rw[yN h0]at hpi;have hf:ls.findIdx? (λ y=>y.any λ x=>decide (x=v))=some k:=ZeO hp hpi.symm hinv;refine kw1 kO (kc1 hp) (kc1 hix) ?_;refine⟨_,rfl,Zah ?_,Zah ?_,trivial⟩
    ·dsimp only[ZaN];rw[hf];rfl
    ·dsimp only[ZmH];rw[hf];dsimp only;rw[hp];rfl
   ·rw[yE h0]at hpi;refine kw1 kO (kc1 hp) (kc1 hix) ?_;refine⟨k+1,?_,kN kc0 [],?_⟩
    ·exact⟨by omega,Zbe hinv hp hpi.symm⟩
    ·omega
  ·have hf:ls.findIdx? (λ y=>y.any λ x=>decide (x=v))=none:=Zfm λ j y hy=>hinv j y (by have:=(uB.1 hy).1;omega) hy
   refine kw1 kO kc0 kc0 ?_;refine⟨_,rfl,Zah ?_,Zah ?_,trivial⟩
   ·dsimp only[ZaN];rw[hf];rfl
   ·dsimp only[ZmH];rw[hf]
def ZcH (a:Lv):Lv:=(a.1,a.2.1.map ZaH,a.2.2.1,a.2.2.2)
theorem Zu0 (a:Lv)(hn:a.2.1.length<=1000)(hl:∀y,y∈a.2.1->y.length*8<=140737488351232):Zaa Tryz.prog 108 [lvD a] (lvD (ZcH a)):=by
 obtain⟨n,ls,ar,cs⟩:=a;dsimp only at hn hl;refine kE Tryz.func108 ?_;intro hat B X w0;refine kw1 kO kc0 kc0 ?_;refine Zas _ (Zsf 9 ls.length rfl) ?_;refine Zaf (λ(k:Nat)=>k<=ls.length) (λ k=>[(1, .ptr 1 0 0 0),(2, .ptr 2 0 0 0),(3, .ref 9 1 0 ls.length ls.length),(11, .d (Zae ls)),(12, .int ls.length),(13, .int k)]) (λ k=>[(1, .cells [.int n, .d (Zae ls), .d (Zak ar), .d (Zae cs)]),(2, .cells [.int 0, .nilS, .nilS, .nilS]),(9, .row 1 (((ls.map ZaH).take k).map Zab++List.replicate (ls.length-k) (.sl [])))]) (λ k=>ls.length-k) 0 ?_ ?_ ?_
 ·exact uI _
 ·exact kN (kc4 @qC.{0} @yS.{0,0} @gJ.{0} @zG) []
 ·intro k hk;rcases uF k ls.length with hlt|hge
  ·obtain⟨p,hp⟩:=Zad hlt;have hpl:=hl p (uA hp);have hv:=Znv p;have hs:=ZlY p (by omega);have hm:(ls.map ZaH)[k]? =some (ZaH p):=by rw[uJ,hp];rfl
   have hst:(((ls.map ZaH).take k).map Zab++List.replicate (ls.length-k) (D.sl [])).set k (Zab (ZaH p))=((ls.map ZaH).take (k+1)).map Zab++List.replicate (ls.length-(k+1)) (D.sl []):=by
    have hlk:(((ls.map ZaH).take k).map Zab).length=k:=by rw[uD,uS,uD];omega
    have e:ls.length-k=(ls.length-(k+1))+1:=by omega
    rw[Bv,hlk,if_neg (by omega),jE,e,zD,kA,ZaB hm,uU,yO];rfl
   have hLn:(((ls.map ZaH).take k).map Zab++List.replicate (ls.length-k) (D.sl [])).length=ls.length:=by
    rw[uC,uD,uS,uD,qX];omega
   have hgk:(((ls.map ZaH).take k).map Zab++List.replicate (ls.length-k) (D.sl []))[k]? =some (D.sl []):=by
    rw[yU (by rw[uD,uS,uD];omega),uD,uS,uD,jF (by omega),jE,gK,if_pos (by omega)]
   refine kw1 kO (kc3 hp hLn hgk) (kc2 hv hs) ?_;refine⟨k+1,?_,kN (kc1 hst) [],?_⟩
   ·omega
   ·omega
  ·have:k=ls.length:=by omega
   subst this;have htl:((ls.map ZaH).take ls.length)=ls.map ZaH:=uG (by rw[uD];exact uH _)
   try dsimp only
   rw[htl,jE];refine kw1 kO kc0 kc0 ?_;refine⟨_,_,_,_,rfl,?_⟩;simp(disch:=omega) only[go_sem,simprocAttr,toD,By,yQ,uD,uG];rw[uG (by rw[uD,uD];exact uH _)];rfl
def Zcv (o:List Int)(x:Int):Nat->Nat
 |0=>0
 |k+1=>if x<at0 o k then Zcv o x k else k+1
theorem Zmn (o:List Int)(x:Int):∀k,Zcv o x k<=k
 |0=>uH _
 |k+1=>by rw[Zcv];have:=Zmn o x k;split<;>omega
def Zeu (o:List Int)(x:Int):List Int:=o.take (Zcv o x o.length)++[x]++o.drop (Zcv o x o.length)
theorem ZxJ (o:List Int)(x:Int):(Zeu o x).length=o.length+1:=by
 have:=Zmn o x o.length;simp only[Zeu,uC,uS,qR,uX,uZ];omega
def Zdk (l:List Int):Nat->List Int
 |0=>[]
 |k+1=>Zeu (Zdk l k) (at0 l k)
theorem ZsW (l:List Int):∀k,(Zdk l k).length=k
 |0=>rfl
 |k+1=>by rw[Zdk,ZxJ,ZsW l k]
theorem ZAA (r:List Int)(k:Nat):∀d,d∈(List.map D.int r).take k->d.cells.length=1:=λ d hd=>Zgo r d (qV hd)
theorem ZwC (r:List Int)(k:Nat):∀d,d∈(List.map D.int r).drop k->d.cells.length=1:=λ d hd=>Zgo r d (gX hd)
theorem Zxa (r:List Int)(k j:Nat):∀d,d∈((List.map D.int r).drop k).take j->d.cells.length=1:=λ d hd=>Zgo r d (gX (qV hd))
theorem ZxO (l:List Int)(hl:l.length<=1000):Zaa Tryz.prog 114 [Zab l] (Zab (Zdk l l.length)):=by
 refine kE Tryz.func114 ?_;intro hat B X w0;refine kw1 kO kc0 kc0 ?_;refine Zas _ (ZdV 3 900 1 rfl rfl) ?_;refine Zaf (λ(i:Nat)=>i<=l.length) (λ i=>[(0, .d (Zab l)),(3, .ref 900 1 0 i i),(4, .int i)]) (λ i=>[(900, .row 1 ((Zdk l i).map D.int))]) (λ i=>l.length-i) 0 ?_ ?_ ?_
 ·exact uI _
 ·exact kN (kc2 @Zdk.eq_1 @yS.{0,0}) []
 ·intro i hi;have hil:=ZsW l i;rcases uF i l.length with hlt|hge
  ·have gi:=ZaK hlt;have his:Zdk l (i+1)=Zeu (Zdk l i) (at0 l i):=rfl;generalize at0 l i=x at gi his;generalize hO:Zdk l i=O at hil his|-;refine kw1 kO kc0 kc0 ?_;refine Zaf (λ(k:Nat)=>k<=i/\Zcv O x k=Zcv O x i) (λ k=>[(0, .d (Zab l)),(3, .ref 900 1 0 i i),(4, .int i),(5, .int k)]) (λ k=>[(900, .row 1 (O.map D.int))]) (λ k=>k) i ?_ ?_ ?_
   ·exact⟨uH _,rfl⟩
   ·exact kN kc0 []
   ·rintro k ⟨hk,hinv⟩;rcases qT k with h0|h0
    ·subst h0;have en:((0:Nat):Int).toNat=0:=rfl;have hmn:min 0 i=0:=by omega
     have htO:List.take i (List.map D.int O)=List.map D.int O:=uG (by rw[uD];omega);have htl:(List.map D.int O).length=i:=by rw[uD,hil]
     refine kw1 (kow (Nat.beq 31) (b:=true)) (kc8 gi en hk hil @qU.{0} @gJ.{0} @zG (kc5 @List.take_take.{0} @Nat.min_self hmn htO htl)) kc0 ?_;have hins:Zeu O x=x::O:=by rw[Zeu,hil,<-hinv];simp[Zcv]
     refine⟨i+1,?_,kN (kc3 his hins @uV.{0,0}) [(900,47)],?_⟩
     ·omega
     ·omega
    ·obtain⟨k,rfl⟩:∃m,k=m+1:=⟨k-1,by omega⟩;have gk:=ZaK (r:=O) (i:=k) (by omega);have ek:(((k+1:Nat):Int)-1).toNat=k:=by omega
     have en:(((k+1:Nat):Int)).toNat=k+1:=by omega
     have hmn:min (k+1) i=k+1:=by omega
     have htl:(List.take (k+1) (List.map D.int O)).length=k+1:=by rw[uS,uD];omega
     have htO:List.take (i-(k+1)) (List.drop (k+1) (List.map D.int O))=List.drop (k+1) (List.map D.int O):=uG (by rw[qR,uD];omega);have htd:(List.drop (k+1) (List.map D.int O)).length=i-(k+1):=by rw[qR,uD];omega
     have hif:k+1+(i-(k+1))=i:=by omega
     have ht2:List.take (k+1+1) (List.take (k+1) (List.map D.int O)++[D.sc (Value.int IntKind.i64 x)])=List.take (k+1) (List.map D.int O)++[D.int x]:=uG (by rw[uC,htl];exact uH _);rw[Zcv]at hinv;by_cases hx:x<at0 O k
     ·rw[if_pos hx]at hinv;refine kw1 kO (kc3 gi gk ek) kc0 ?_;refine⟨k,?_,kN (kc3 @qN @gQ @Ch) [],?_⟩
      ·exact⟨by omega,hinv⟩
      ·omega
     ·rw[if_neg hx]at hinv
      repeat' first|refine Zbt rfl ?_|refine ZaX ?_|refine ZfZ (Nat.beq 31) Zcf ?_|(refine Zbv rfl rfl (λ hc=>?_) (λ hc=>?_)<;>try simp only[hcL]at hc)|(refine Zbx _ rfl rfl (λ hc=>?_) (λ hc=>?_)<;>(try simp only[hcL]at hc)<;>try omega)|simp(disch:=omega) only[go_sem,simprocAttr,gi,gk,ek,en,roomy,hk,hil,qU,gJ,zG,List.take_take,Nat.min_self,hmn,htO,htl,htd,hif,uH,uC,uX,uZ,qQ]|(first|exact Zgo _|exact ZAA _ _|exact ZwC _ _|exact Zxa _ _ _)|apply And.intro|omega|decide+kernel
      have hins:Zeu O x=O.take (k+1)++[x]++O.drop (k+1):=by rw[Zeu,hil,<-hinv]
      refine⟨i+1,?_,eL [(900,47)] _ _ (by refine⟨?_,?_⟩<;>(repeat' first|exact fmn|refine fmc ⟨(by first|rfl|(simp(disch:=omega) only[go_sem,simprocAttr,inL,his,hins,ht2,uU,Ai,List.map_drop];first|done|omega|(congr 1;done))),?_⟩);done),?_⟩
      ·omega
      ·omega
  ·have:i=l.length:=by omega
   subst this;refine kw1 kO kc0 kc0 ?_;exact ZcK (o:=900) rfl rfl (by simp[hil]) (uG (by simp[hil]))
theorem ZpT (o:List Int)(x:Int):∀(k j:Nat),Zcv o x k<=j->j<k->x<at0 o j
 |0,j,_,h=>by omega
 |k+1,j,h1,h2=>by
  rw[Zcv]at h1;split at h1
  ·rename_i hx;rcases uF j k with h|h
   ·exact ZpT o x k j h1 h
   ·rw[show j=k by omega];exact hx
  ·omega
theorem ZpL (o:List Int)(x:Int):∀(k p:Nat),Zcv o x k=p+1->at0 o p<=x
 |0,p,h=>by rw[Zcv]at h;omega
 |k+1,p,h=>by
  rw[Zcv]at h;split at h
  ·exact ZpL o x k p h
  ·rename_i hx;rw[show p=k by omega];omega
theorem ZBx (o:List Int)(x:Int):(Zeu o x).Perm (x::o):=by
 rw[Zeu,yO,List.singleton_append];refine zK.trans ?_;rw[yX]
theorem ZzL {o:List Int}(h:o.Pairwise (·<=·))(x:Int):(Zeu o x).Pairwise (·<=·):=by
 have hlo:∀a,a∈o.take (Zcv o x o.length)->a<=x:=by
  intro a ha;obtain⟨j,hj⟩:=jC.1 ha;rw[qH]at hj;split at hj
  ·rename_i hjp;obtain⟨p,hp⟩:∃p,Zcv o x o.length=p+1:=⟨Zcv o x o.length-1,by omega⟩;have h1:=ZpL o x o.length p hp;have h2:=Zmn o x o.length;have h3:=ZaK (r:=o) (i:=p) (by omega);rcases uF j p with hl|hl
   ·have h4:=(uB.1 hj);obtain⟨h5,h6⟩:=h4;obtain⟨h7,h8⟩:=uB.1 h3;have:=gU.1 h j p h5 h7 hl;rw[h6,h8]at this;exact Ae this h1
   ·have:j=p:=by omega
    subst this;rw[h3]at hj;cases hj;exact h1
  ·cases hj
 have hhi:∀a,a∈o.drop (Zcv o x o.length)->x<=a:=by
  intro a ha;obtain⟨j,hj⟩:=jC.1 ha;rw[gC]at hj;have hlt:Zcv o x o.length+j<o.length:=(uB.1 hj).1;have h1:=ZpT o x o.length (Zcv o x o.length+j) (by omega) hlt;rw[ZaK hlt]at hj;cases hj;omega
 rw[Zeu];refine qB.2 ⟨qB.2 ⟨h.sublist (jN _ _),kH _ _,λ a ha b hb=>?_⟩,h.sublist (zB _ _),λ a ha b hb=>?_⟩
 ·rw[uR.1 hb];exact hlo a ha
 ·rcases yH.1 ha with ha|ha
  ·exact Ae (hlo a ha) (hhi b hb)
  ·rw[uR.1 ha];exact hhi b hb
theorem Zte (l:List Int):∀k,k<=l.length->(Zdk l k).Perm (l.take k)
 |0,_=>by simp[Zdk]
 |k+1,h=>by
  rw[Zdk,ZaB (ZaK (r:=l) (i:=k) (by omega))];exact(ZBx _ _).trans (((Zte l k (by omega)).cons _).trans (List.perm_append_singleton _ _).symm)
theorem Zss (l:List Int):∀k,(Zdk l k).Pairwise (·<=·)
 |0=>List.Pairwise.nil
 |k+1=>by rw[Zdk];exact ZzL (Zss l k) _
theorem Zof (l:List Int):(ZaH l).Pairwise (·<=·):=by
 have h:=List.pairwise_mergeSort (le:=λ x y:Int=>decide (x<=y)) (by intro a b c h1 h2;simp only[uE]at*;omega) (by intro a b;simp only[gA,uE];omega) l;exact h.imp λ h=>by simpa using h
theorem ZiA (l:List Int):(ZaH l).Perm l:=List.mergeSort_perm _ _
theorem ZwS (l:List Int):Zdk l l.length=ZaH l:=by
 refine Az (le:=(·<=·)) (λ a b _ _ h1 h2=>Int.le_antisymm h1 h2) (Zss l _) (Zof l) ?_;have:=Zte l l.length (uH _);rw[yF]at this;exact this.trans (ZiA l).symm
theorem ZB6 (l:List Int)(hl:l.length<=1000):Zaa Tryz.prog 114 [Zab l] (Zab (ZaH l)):=ZwS l▸ZxO l hl
theorem Zwt (a:Lv)(hn:a.2.1.length<=1000)(hl:∀y,y∈a.2.1->y.length<=1000):Zaa Tryz.prog 56 [lvD a] (lvD (ZcH a)):=by
 obtain⟨n,ls,ar,cs⟩:=a;dsimp only at hn hl;refine kE Tryz.func56 ?_;intro hat B X w0;refine kw1 kO kc0 kc0 ?_;refine Zas _ (Zcy 3 1 901 1 rfl rfl rfl) ?_;refine Zaf (λ(k:Nat)=>k<=ls.length) (λ k=>[(1, .ptr 1 0 0 0),(2, .ptr 2 0 0 0),(3, .ptr 3 0 0 0),(4, .int k)]) (λ k=>[(1, .cells [.int n, .d (Zae ls), .d (Zak ar), .d (Zae cs)]),(2, .cells [.int 0, .nilS, .nilS, .nilS]),(3, .cells [.int n, .ref 901 1 0 k k, .d (Zak ar), .d (Zae cs)]),(901, .row 1 (((ls.map ZaH).take k).map Zab))]) (λ k=>ls.length-k) 0 ?_ ?_ ?_
 ·exact uI _
 ·exact kN (kc2 @qC.{0} @yS.{0,0}) []
 ·intro k hk;rcases uF k ls.length with hlt|hge
  ·obtain⟨p,hp⟩:=Zad hlt;have hpl:=hl p (uA hp);have hs:=ZB6 p hpl;have hm:(ls.map ZaH)[k]? =some (ZaH p):=by rw[uJ,hp];rfl
   have hts:=ZaB hm;have hlk:(((ls.map ZaH).take k).map Zab).length=k:=by rw[uD,uS,uD];omega
   have htk:List.take k (((ls.map ZaH).take k).map Zab)=((ls.map ZaH).take k).map Zab:=uG (by rw[hlk];exact uH _);refine kw1 kO (kc2 hp hlk) (kc1 hs) ?_;refine⟨k+1,?_,kN (kc3 hts @uU.{0,0} htk) [(901,28)],?_⟩
   ·omega
   ·omega
  ·have:k=ls.length:=by omega
   subst this;have htl:((ls.map ZaH).take ls.length)=ls.map ZaH:=uG (by rw[uD];exact uH _)
   try dsimp only
   rw[htl];refine kw1 kO kc0 kc0 ?_;refine⟨_,_,_,_,rfl,?_⟩;simp(disch:=omega) only[go_sem,simprocAttr,toD,uD];rw[uG (by rw[uD,uD];exact uH _)];rfl
theorem ZfR (a b:Int):(if b<a then b else a)=min a b:=by omega
def Za0 (g:Nat->Int)(n k:Nat):List Int:=(List.range n).map λ u=>if u<k then g u else 0
theorem Zdh (g:Nat->Int)(n k:Nat):(Za0 g n k).length=n:=by simp[Za0]
theorem ZeS {g:Nat->Int}{n k u:Nat}(h:u<n):(Za0 g n k)[u]? =some (if u<k then g u else 0):=by simp[Za0,h]
theorem ZhK (g:Nat->Int)(n:Nat):(Za0 g n 0).map D.int=List.replicate n (D.int 0):=by
 rw[kV];refine⟨by simp[Za0],λ b hb=>?_⟩;simp only[Za0,gL,uN]at hb;obtain⟨u,_,rfl⟩:=hb;simp
theorem ZhE {g:Nat->Int}{n k:Nat}(h:k<n):(Za0 g n k).set k (g k)=Za0 g n (k+1):=by
 refine qI λ u=>?_
 by_cases hu:u<n
 ·rw[ZeS hu,qD,ZeS hu,Zdh];by_cases c:k=u
  ·subst c;rw[if_pos rfl,if_pos h,if_pos (by omega)]
  ·rw[if_neg c];by_cases c2:u<k
   ·rw[if_pos c2,if_pos (by omega)]
   ·rw[if_neg c2,if_neg (by omega)]
 ·rw[uP (by rw[yI,Zdh];omega),uP (by rw[Zdh];omega)]
theorem Zhz (g:Nat->Int)(n:Nat):Za0 g n n=(List.range n).map g:=by
 rw[Za0];refine yJ λ u hu=>?_
 rw[if_pos (yA.1 hu)]
theorem Zp2 {ds cs:List D}{l:List D}{m:List D}{k:Nat}(i j:Nat)(h:∃w X vs,Zhx w X ds vs)(hi:ds[i]? =some (.ag cs))(hj:cs[j]? =some (.sl l))(hk:l[k]? =some (.sl m)):m.length<=9223372036854775807:=by
 obtain⟨w,X,vs,h1,h2⟩:=h;have hlt:i<vs.size:=by have:=(uB.1 hi).1;omega
 have:=h2 i _ _ hi (uT hlt);generalize vs[i]=v at this;cases this with
 |ag _ arr hsz hone hat=>
  have hlt:j<arr.size:=by have:=(uB.1 hj).1;omega
  have:=hat j _ _ hj (uT hlt);generalize arr[j]=v at this;cases this with
  |slnil=>cases hk
  |sl _ b off cap sz hl hc hsz vals hv he=>
   have:=he k _ 0 _ hk rfl;generalize vals k 0=v at this;cases this with
   |slnil=>simp
   |sl _ b off cap sz hl hc=>simp only[maxLen]at hc;omega
def Zcg (c:List Int):Arc:=(at0 c 0,at0 c ((c.length:Int)-1))
def ZaS (a:Lv):Gr:=(a.1,a.2.2.2.map Zcg)
def ZaY (a:Lv):List Int:=(List.range a.1.toNat).map λ v:Nat=>ZaN a.2.1 v
def ZeR (a:Lv):Bool:=decide (0<=a.1/\a.1<=64/\a.2.2.2.length<=256/\a.2.1.length<=256)
def ZdF (c:List Int):Bool:=decide (c.length<2)
def ZhF (a:Lv)(v:Nat):Bool:=decide (ZaN a.2.1 v<0)
def Zf1 (a:Lv):Bool:= !(List.range a.1.toNat).any (ZhF a)
def Zaq (a:Lv):Bool:=ZeR a&& !a.2.2.2.any ZdF&&Zf1 a&&decide ((ZaG (ZaS a) (ZaY a)).2=0)&&ZeY (ZcH a) (ZaG (ZaS a) (ZaY a)).1
def wide (a:Lv):Prop:=∀y,y∈a.2.1->y.length*8<=140737488351232
theorem Zhd (a:Lv)(hw:wide a):Zaa Tryz.prog 51 [lvD a] (.bool (Zaq a)):=by
 have hfd:=ZlD a;have hbd:=Zsw (ZaS a) (ZaY a);have hsd:=Zu0 a;have hsm:=ZxV (ZcH a) (ZaG (ZaS a) (ZaY a)).1;obtain⟨m,ls,ar,cs⟩:=a;refine kE Tryz.func51 ?_;intro hat B X w0;have h1:=ZbZ 0 1 hat rfl rfl;have h2:=ZbZ 0 2 hat rfl rfl;have h3:=ZbZ 0 3 hat rfl rfl;rw[uD]at h1 h2 h3;dsimp only at h1 h2 h3;refine kw kO kc0 kc0 ?_
 repeat' first|exact True.intro|refine Bn.mk ?_ ?_|intro hc
 all_goals try (refine Zaj ?_;simp[Zaq,ZeR];omega)
 obtain⟨n,rfl⟩:∃n:Nat,m=n:=⟨m.toNat,by omega⟩;have hhd:ZeR ((n:Int),ls,ar,cs)=true:=by simp[ZeR];omega
 have hn64:n<=64:=by omega
 have hc256:cs.length<=256:=by omega
 have hl256:ls.length<=256:=by omega
 refine Zas _ (Zcy 3 1 901 2 rfl rfl rfl) ?_;refine Zaf (λ(k:Nat)=>k<=cs.length/\∀(j:Nat) y,j<k->cs[j]? =some y->ZdF y=false) (λ k=>[(1, .ptr 1 0 0 0),(3, .ptr 3 0 0 0),(34, .d (Zae cs)),(35, .int cs.length),(36, .int k)]) (λ k=>[(1, .cells [.int n, .d (Zae ls), .d (Zak ar), .d (Zae cs)]),(3, .cells [.int n, .ref 901 2 0 k k]),(901, .row 2 (((cs.take k).map Zcg).map ZaZ))]) (λ k=>cs.length-k) 0 ?_ ?_ ?_
 ·exact⟨uI _,λ j y h=>by omega⟩
 ·exact kN (kc2 @qC.{0} @yS.{0,0}) []
 ·rintro k ⟨hk,hinv⟩;rcases uF k cs.length with hlt|hge
  ·obtain⟨c,hc0⟩:=Zad hlt;by_cases hsc:c.length<2
   ·refine kw1 kO (kc1 hc0) kc0 ?_;refine Zaj ?_;have:cs.any ZdF=true:=Zb8 hc0 (by simpa[ZdF]using hsc);simp[Zaq,this]
   ·have hcl:c.length<=9223372036854775807:=by have:=Zp2 (m:=c.map D.int) (k:=k) 0 3 hat rfl rfl (by rw[uJ,hc0];rfl);rwa [uD]at this
    have e1:=ZaK (r:=c) (i:=0) (by omega);have e2:=Zdu (r:=c) (v:=(c.length:Int)-1) (by omega) (by omega);have hts:=ZaB hc0;have hlk:(((cs.take k).map Zcg).map ZaZ).length=k:=by rw[uD,uD,uS];omega
    have htk:List.take k (((cs.take k).map Zcg).map ZaZ)=((cs.take k).map Zcg).map ZaZ:=uG (by rw[hlk];exact uH _);refine kw1 kO (kc4 hc0 e1 e2 hlk) kc0 ?_;refine⟨k+1,?_,kN (kc3 hts @uU.{0,0} htk) [(901,56)],?_⟩
    ·exact⟨by omega,Zbe hinv hc0 (by simpa[ZdF]using hsc)⟩
    ·omega
  ·have:k=cs.length:=by omega
   subst this;have hsc:cs.any ZdF=false:=Zcq λ j y hj=>hinv j y hj
   try dsimp only
   rw[yF];refine kw1 (kow (Nat.beq 61) (b:=false)) kc0 kc0 ?_;refine Zaf (λ(v:Nat)=>v<=n/\∀u,u<v->ZhF (n,ls,ar,cs) u=false) (λ v=>[(1, .ptr 1 0 0 0),(3, .ptr 3 0 0 0),(6, .ref 61 1 0 n n),(63, .int n),(64, .int v)]) (λ v=>[(1, .cells [.int n, .d (Zae ls), .d (Zak ar), .d (Zae cs)]),(3, .cells [.int n, .ref 901 2 0 cs.length cs.length]),(901, .row 2 ((cs.map Zcg).map ZaZ)),(61, .row 1 ((Za0 (λ u=>ZaN ls u) n v).map D.int))]) (λ v=>n-v) 0 ?_ ?_ ?_
   ·exact⟨uI _,λ u h=>by omega⟩
   ·exact kN (kc1 @ZhK) []
   ·rintro v ⟨hv,hinv2⟩;have hfl:=Zdh (λ u=>ZaN ls u) n v;rcases uF v n with hlt|hge
    ·have hg:=ZeS (g:=λ u=>ZaN ls u) (k:=v) hlt;have hst:=ZhE (g:=λ u=>ZaN ls u) hlt;have hsm:(List.map D.int (Za0 (λ u=>ZaN ls u) n v)).set v (D.sc (Value.int IntKind.i64 (ZaN ls v)))=List.map D.int (Za0 (λ u=>ZaN ls u) n (v+1)):=by rw[<-hst,yP]
     have hfl2:=Zdh (λ u=>ZaN ls u) n (v+1);have hg2:=ZeS (g:=λ u=>ZaN ls u) (k:=v+1) hlt;rw[if_pos (by omega)]at hg2;have hf:=hfd v;dsimp only at hf;by_cases hn:ZaN ls v<0
     ·have hfo:Zf1 ((n:Int),ls,ar,cs)=false:=by
       rw[Zf1,Af,gM];exact⟨v,by simpa using hlt,by simpa[ZhF]using hn⟩
      refine kw1 kO (kc5 hg hsm hg2 hfl hfl2) (kc1 hf) ?_;refine Zaj ?_;simp[Zaq,hfo]
     ·refine kw1 kO (kc5 hg hsm hg2 hfl hfl2) (kc1 hf) ?_;refine⟨v+1,?_,kN (kc1 hsm) [],?_⟩
      ·refine⟨by omega,λ u hu=>?_⟩;rcases qS.1 hu with h|rfl
       ·exact hinv2 u h
       ·simpa[ZhF]using hn
      ·omega
    ·have:v=n:=by omega
     subst this;have hfo:Zf1 ((v:Int),ls,ar,cs)=true:=by
      rw[Zf1,yD,yR];intro u hu;rw[hinv2 u (by simpa using hu)]
      decide
     have hre:Za0 (λ u=>ZaN ls u) v v=ZaY ((v:Int),ls,ar,cs):=by rw[Zhz,ZaY];rfl
     have hsg:ZaS ((v:Int),ls,ar,cs)=((v:Int),cs.map Zcg):=rfl
     try dsimp only
     rw[hre];rw[hsg]at hbd hsm;have hvf:Zaq ((v:Int),ls,ar,cs)=(decide ((ZaG ((v:Int),cs.map Zcg) (ZaY ((v:Int),ls,ar,cs))).2=0)&&ZeY (ZcH ((v:Int),ls,ar,cs)) (ZaG ((v:Int),cs.map Zcg) (ZaY ((v:Int),ls,ar,cs))).1):=by rw[Zaq,hhd,hsc,hfo,hsg];simp
     rw[hvf];have hrl:(ZaY ((v:Int),ls,ar,cs)).length=v:=by simp[ZaY]
     generalize ZaY ((v:Int),ls,ar,cs)=R at*;generalize ZaG ((v:Int),cs.map Zcg) R=BF at*;obtain⟨b,e⟩:=BF;have hsd1:=hsd (by simpa using(show ls.length<=1000 by omega)) hw;generalize ZcH ((v:Int),ls,ar,cs)=S at*;dsimp only at hbd hsm|-;have htA:((cs.map Zcg).map ZaZ).take cs.length=(cs.map Zcg).map ZaZ:=uG (by simp);have htR:(R.map D.int).take v=R.map D.int:=uG (by simp[hrl]);have hlA:((cs.map Zcg).map ZaZ).length=cs.length:=by simp
     have hlR:(R.map D.int).length=v:=by simp[hrl]
     refine Zas _ (Zde 901 2 ((cs.map Zcg).map ZaZ) rfl (ZcW _ rfl) (by decide)) ?_;refine kR (kc4 @qU.{0} htA hlA @uH) [] [(1, .ptr 1 0 0 0),(3, .ptr 3 0 0 0),(6, .ref 61 1 0 v v),(63, .int v),(64, .int v)] [(1, .cells [.int v, .d (Zae ls), .d (Zak ar), .d (Zae cs)]),(3, .cells [.int v, .d (Zak (cs.map Zcg))]),(61, .row 1 (R.map D.int))] ?_;refine Zas _ (Zde 61 1 (R.map D.int) rfl (ZcW _ rfl) (by decide)) ?_;by_cases he:e=0
     ·subst he;rcases hsv:ZeY S b with _|_<;>rw[hsv]at hsm
      all_goals
       refine kw1 kO (kc3 htR hlR @qU.{0}) (kc3 hbd hsd1 hsm) ?_;refine Zaj ?_;simp[hsv]
     ·refine kw1 kO (kc4 he htR hlR @qU.{0}) (kc3 hbd hsd1 hsm) ?_;refine Zaj ?_;simp[he]
def tot :List (List Int)->Nat
 |[]=>0
 |y::l=>y.length+tot l
theorem ZpJ (l m:List (List Int)):tot (l++m)=tot l+tot m:=by
 induction l with
 |nil=>simp[tot]
 |cons y l ih=>simp only[jH,tot,ih];omega
theorem Zja {l:List (List Int)}{k:Nat}{y:List Int}(h:l[k]? =some y):tot (l.take (k+1))=tot (l.take k)+y.length:=by
 rw[ZaB h,ZpJ];simp[tot]
theorem ZjI (l:List (List Int))(k:Nat):tot (l.take k)<=tot l:=by
 conv=>rhs;rw[<-yX k l]
 rw[ZpJ];omega
theorem Zlj (l:List (List Int)):l.flatten.length=tot l:=by
 induction l with
 |nil=>rfl
 |cons y l ih=>simp only[kQ,uC,tot,ih]
theorem ZcU {l:List (List Int)}{y:List Int}(h:y∈l):y.length<=tot l:=by
 induction l with
 |nil=>cases h
 |cons x l ih=>
  rw[tot];rcases yK.1 h with rfl|h
  ·omega
  ·have:=ih h;omega
def ZcE (c:Nat)(ls:List (List Int)):Bool:=ls.flatten.all (λ v=>decide (0<=v/\v<c))&&decide ls.flatten.Nodup
def Zcc (c:Nat)(ls:List (List Int)):List Int:=(List.range c).map λ v:Nat=>ZaN ls v
def Zcm (ls:List (List Int)):Option (List Int):=if 256<ls.length\/512<tot ls then none else if ZcE (tot ls) ls then some (Zcc (tot ls) ls)else none
theorem Zeq (c:Nat)(ls:List (List Int)):(Zcc c ls).length=c:=by simp[Zcc]
theorem ZjG {c v:Nat}(h:v<c)(ls:List (List Int)):(Zcc c ls)[v]? =some (ZaN ls v):=by simp[Zcc,h]
theorem Zgf {ls:List (List Int)}{v:Int}:0<=ZaN ls v↔v∈ls.flatten:=by
 have h:=Zhs (λ y:List Int=>y.any λ x=>decide (x=v)) ls;have:decide (0<=ZaN ls v)=true↔v∈ls.flatten:=by
  rw[ZaN,h,gM,Ac];constructor
  ·rintro⟨y,h1,h2⟩;obtain⟨x,h3,h4⟩:=gM.1 h2;have:x=v:=by simpa using h4
   exact⟨y,h1,this▸h3⟩
  ·rintro⟨y,h1,h2⟩;exact⟨y,h1,gM.2 ⟨v,h2,by simp⟩⟩
 simpa using this
theorem ZnF {ls:List (List Int)}{v:Int}(h:v∉ls.flatten):ZaN ls v=-1:=by
 have h2:¬0<=ZaN ls v:=λ h1=>h (Zgf.1 h1)
 unfold ZaN at h2|-;unfold ZcT at h2|-;split
 ·rename_i i hi;rw[hi]at h2;dsimp only at h2;omega
 ·rfl
theorem ZsE (ls:List (List Int))(y:List Int)(v:Int):ZaN (ls++[y]) v=if v∈ls.flatten then ZaN ls v else if v∈y then(ls.length:Int)else -1:=by
 by_cases h1:v∈ls.flatten
 ·rw[if_pos h1];have h2:=Zgf.2 h1;unfold ZaN at h2|-;rw[List.findIdx?_append];cases hf:ls.findIdx? (λ y=>y.any λ x=>decide (x=v))with
  |none=>rw[hf]at h2;exact absurd h2 (by decide)
  |some i=>rfl
 ·rw[if_neg h1];have h2:=ZnF h1;by_cases h3:v∈y
  ·rw[if_pos h3];unfold ZaN at h2|-;rw[List.findIdx?_append];cases hf:ls.findIdx? (λ y=>y.any λ x=>decide (x=v))with
   |some i=>rw[hf]at h2;simp only[ZcT]at h2;omega
   |none=>
    have:(y.any λ x=>decide (x=v))=true:=gM.2 ⟨v,h3,by simp⟩;rw[jJ,if_pos this];simp[ZcT]
  ·rw[if_neg h3];refine ZnF ?_;rw[zY,yH];rintro(h|h)
   ·exact h1 h
   ·exact h3 (by simpa using h)
def pre (ls:List (List Int))(i k:Nat):List (List Int):=ls.take i++[((ls[i]?).getD []).take k]
theorem Zzo (ls:List (List Int)){i k:Nat}{y:List Int}(h:ls[i]? =some y):ls.flatten=(pre ls i k).flatten++(y.drop k++(ls.drop (i+1)).flatten):=by
 have hd:ls.drop i=y::ls.drop (i+1):=by
  obtain⟨hi,he⟩:=uB.1 h;rw[<-he];exact gG hi
 conv=>lhs;rw[<-yX i ls,hd,zY,kQ]
 rw[pre,h,zY];simp only[yW,kQ,Bp,yQ]
 conv=>lhs;rw[<-yX k y]
 simp only[yO]
theorem ZAO (ls:List (List Int)){i k:Nat}{y:List Int}{v:Int}(h:ls[i]? =some y)(hv:y[k]? =some v):(pre ls i (k+1)).flatten=(pre ls i k).flatten++[v]:=by
 simp only[pre,h,yW,zY,kQ,Bp,yQ,ZaB hv,yO]
theorem ZuJ {c:Nat}(ls:List (List Int)){i k:Nat}{y:List Int}{v:Int}(h:ls[i]? =some y)(hv:y[k]? =some v)(h0:0<=v)(h1:ZaN (pre ls i k) v<0):
  (Zcc c (pre ls i k)).set v.toNat (i:Int)=Zcc c (pre ls i (k+1)):=by
 have hi:(ls.take i).length=i:=by rw[uS];have:=(uB.1 h).1;omega
 refine qI λ u=>?_
 by_cases hu:u<c
 ·rw[ZjG hu,qD,ZjG hu,Zeq];simp only[pre,h,yW,ZsE,ZaB hv,hi,yH,uR]at h1|-;by_cases e:v.toNat=u
  ·subst e;have ev:((v.toNat:Nat):Int)=v:=by omega
   rw[if_pos rfl,if_pos hu,ev];split at h1
   ·rename_i hm;have:=Zgf.2 hm;omega
   ·rename_i hm;rw[if_neg hm,if_pos (.inr rfl)]
  ·rw[if_neg e];have:¬(u:Int)=v:=by omega
   simp[this]
 ·rw[uP (by rw[yI,Zeq];omega),uP (by rw[Zeq];omega)]
theorem Zw7 (ls:List (List Int))(i:Nat)(v:Int):ZaN (pre ls i 0) v=ZaN (ls.take i) v:=by
 rw[pre,ZsE];by_cases h:v∈(ls.take i).flatten
 ·rw[if_pos h]
 ·rw[if_neg h,qC,if_neg jQ,ZnF h]
theorem ZA4 (c:Nat)(ls:List (List Int))(i:Nat):Zcc c (pre ls i 0)=Zcc c (ls.take i):=by
 simp only[Zcc,Zw7]
theorem Zyu {ls:List (List Int)}{i:Nat}{y:List Int}(h:ls[i]? =some y):pre ls i y.length=ls.take (i+1):=by
 rw[pre,h,yW,yF,ZaB h]
theorem ZtA {c:Nat}{ls:List (List Int)}{i:Nat}:ZcE c (pre ls i 0)=ZcE c (ls.take i):=by
 simp[ZcE,pre]
theorem ZfA {c:Nat}{ls:List (List Int)}:ZcE c ls=true↔(∀v∈ls.flatten,0<=v/\v<c)/\ls.flatten.Nodup:=by
 simp only[ZcE,uK,uY,uE]
theorem ZBd {c:Nat}{ls:List (List Int)}{i k:Nat}{y:List Int}{v:Int}(h:ls[i]? =some y)(hv:y[k]? =some v)(hg:ZcE c (pre ls i k)=true)(h0:0<=v)(h2:v<c)(h1:ZaN (pre ls i k) v<0):
  ZcE c (pre ls i (k+1))=true:=by
 rw[ZfA]at hg|-;rw[ZAO ls h hv];have hn:v∉(pre ls i k).flatten:=λ hm=>by have:=Zgf.2 hm;omega
 refine⟨λ u hu=>?_,gP.2 ⟨hg.2,by simp,λ a ha b hb=>?_⟩⟩
 ·rcases yH.1 hu with hu|hu
  ·exact hg.1 u hu
  ·rw[uR.1 hu];exact⟨h0,h2⟩
 ·rw[uR.1 hb];rintro rfl;exact hn ha
theorem Zri {c:Nat}{ls:List (List Int)}{i k:Nat}{y:List Int}{v:Int}(h:ls[i]? =some y)(hv:y[k]? =some v)(hb:v<0\/(c:Int)<=v\/0<=ZaN (pre ls i k) v):ZcE c ls=false:=by
 rw[Bi];intro hg;rw[ZfA]at hg;have hd:y.drop k=v::y.drop (k+1):=by
  obtain⟨hi,he⟩:=uB.1 hv;rw[<-he];exact gG hi
 have hf:=Zzo ls (k:=k) h;rw[hd]at hf;rw[hf]at hg;have hm:=hg.1 v (by simp);rcases hb with hb|hb|hb
 ·omega
 ·omega
 ·exact(gP.1 hg.2).2.2 v (Zgf.1 hb) v (by simp) rfl
theorem ZAw (c:Nat):Zcc c []=List.replicate c (-1):=by
 rw[kV];refine⟨Zeq _ _,λ b hb=>?_⟩;obtain⟨u,_,rfl⟩:=uN.1 hb;rfl
def Zem (c k:Nat):List Int:=List.replicate k (-1)++List.replicate (c-k) 0
theorem Zqk {c k:Nat}(h:k<=c):(Zem c k).length=c:=by simp[Zem];omega
theorem Zy7 {c k:Nat}(h:k<c):(Zem c k).set k (-1)=Zem c (k+1):=by
 have e:c-k=(c-(k+1))+1:=by omega
 rw[Zem,e,zD,Bv,qX,if_neg (by omega),jE,kA,Zem,List.replicate_succ',yO];rfl
theorem ZCB {c k:Nat}(h:k<c):∃x,(Zem c k)[k]? =some x:=Zad (by rw[Zqk (by omega)];exact h)
theorem ZvL (c:Nat):Zem c c=Zcc c []:=by rw[ZAw,Zem,jE];simp
theorem ZBX (c:Nat):(Zem c 0).map D.int=List.replicate c (D.int 0):=by simp[Zem]
theorem ZiR (a:Lv)(hw:wide a):Zaa Tryz.prog 111 [lvD a] (.tup [Zab ((Zcm a.2.1).getD []), .bool (Zcm a.2.1).isSome]):=by
 obtain⟨m,ls,ar,cs⟩:=a;have hww:∀y,y∈ls->y.length*8<=140737488351232:=hw;refine kE Tryz.func111 ?_;intro hat B X w0;have h1:=ZbZ 0 1 hat rfl rfl;rw[uD]at h1;dsimp only at h1;refine kw1 kO kc0 kc0 ?_;refine Zaf (λ(i:Nat)=>i<=ls.length/\i<=257/\tot (ls.take i)<=512+17592186043904) (λ i=>[(1, .ptr 1 0 0 0),(4, .int (tot (ls.take i))),(5, .int i)]) (λ i=>[(1, .cells [.int m, .d (Zae ls), .d (Zak ar), .d (Zae cs)])]) (λ i=>ls.length-i) 0 ?_ ?_ ?_
 ·exact⟨uI _,by omega,by simp[tot]⟩
 ·exact kN (kc2 @qC.{0} @tot.eq_1) []
 ·rintro i ⟨hi1,hi2,hi3⟩;by_cases hgo:i<ls.length/\i<257/\tot (ls.take i)<=512
  ·obtain⟨g1,g2,g3⟩:=hgo;obtain⟨y,hy⟩:=Zad g1;have hyw:=hww y (uA hy);have hts:=Zja hy;refine kw1 kO (kc1 hy) kc0 ?_;refine⟨i+1,?_,kN (kc2 hts @qN) [],?_⟩
   ·exact⟨by omega,by omega,by omega⟩
   ·omega
  ·have hout:(256<ls.length\/512<tot (ls.take i))\/(i=ls.length/\ls.length<=256/\tot ls<=512):=by
    by_cases c1:i=ls.length
    ·rw[c1,yF];omega
    ·omega
   rcases hout with hno|⟨rfl,g2,g3⟩
   ·have htl:=ZjI ls i;have hrf:Zcm ls=none:=by rw[Zcm,if_pos (by omega)]
    rw[hrf];have hlt:i<ls.length\/i=ls.length:=by omega
    rcases hlt with hlt|hlt
    all_goals
     by_cases h257:i<257
     all_goals
      refine kw kO kc0 kc0 ?_
      repeat' first|exact True.intro|refine Bn.mk ?_ ?_|intro hc
      all_goals exact⟨_,rfl,rfl,Zaj rfl,trivial⟩
   ·rw[yF];have hrf:Zcm ls=if ZcE (tot ls) ls then some (Zcc (tot ls) ls)else none:=by rw[Zcm,if_neg (by omega)]
    rw[hrf];generalize hc:tot ls=c at g3|-;refine kw1 (kow (Nat.beq 43) (b:=false)) kc0 kc0 ?_;refine Zaf (λ(v:Nat)=>v<=c) (λ v=>[(1, .ptr 1 0 0 0),(4, .int c),(6, .ref 43 1 0 c c),(7, .int v)]) (λ v=>[(1, .cells [.int m, .d (Zae ls), .d (Zak ar), .d (Zae cs)]),(43, .row 1 ((Zem c v).map D.int))]) (λ v=>c-v) 0 ?_ ?_ ?_
    ·exact uI _
    ·exact kN (kc1 @ZBX) []
    ·intro v hv;have hnl:=Zqk hv;rcases uF v c with hlt|hge
     ·obtain⟨x,hx⟩:=ZCB hlt;have hst:=Zy7 hlt;refine kw1 kO (kc2 hx hnl) kc0 ?_;refine⟨v+1,?_,kN (kc2 @hst.symm @yP.{0,0}) [],?_⟩
      ·omega
      ·omega
     ·have:v=c:=by omega
      subst this
      try dsimp only
      rw[ZvL];refine kw1 kO kc0 kc0 ?_;refine Zaf (λ(i:Nat)=>i<=ls.length/\ZcE v (ls.take i)=true) (λ i=>[(1, .ptr 1 0 0 0),(4, .int v),(6, .ref 43 1 0 v v),(8, .int i)]) (λ i=>[(1, .cells [.int m, .d (Zae ls), .d (Zak ar), .d (Zae cs)]),(43, .row 1 ((Zcc v (ls.take i)).map D.int))]) (λ i=>ls.length-i) 0 ?_ ?_ ?_
      ·exact⟨uI _,by simp[ZcE]⟩
      ·exact kN (kc1 @qC.{0}) []
      ·rintro i ⟨hi,hgood⟩;rcases uF i ls.length with hlt|hge
       ·obtain⟨y,hy⟩:=Zad hlt;have hyw:=hww y (uA hy);refine kw1 kO (kc1 hy) kc0 ?_;refine Zaf (λ(k:Nat)=>k<=y.length/\ZcE v (pre ls i k)=true) (λ k=>[(1, .ptr 1 0 0 0),(4, .int v),(6, .ref 43 1 0 v v),(8, .int i),(9, .int k)]) (λ k=>[(1, .cells [.int m, .d (Zae ls), .d (Zak ar), .d (Zae cs)]),(43, .row 1 ((Zcc v (pre ls i k)).map D.int))]) (λ k=>y.length-k) 0 ?_ ?_ ?_
        ·exact⟨uI _,by rw[ZtA];exact hgood⟩
        ·exact kN (kc1 @ZA4) []
        ·rintro k ⟨hk,hgk⟩;rcases uF k y.length with hlk|hgk2
         ·obtain⟨x,hx⟩:=Zad hlk;have hrl:=Zeq v (pre ls i k);by_cases hin:0<=x/\x<v
          ·have hg:=ZjG (v:=x.toNat) (c:=v) (by omega) (pre ls i k);rw[show((x.toNat:Nat):Int)=x by omega]at hg;by_cases hd:ZaN (pre ls i k) x<0
           ·have hst:=ZuJ (c:=v) ls hy hx hin.1 hd;refine kw1 kO (kc4 hy hx hrl hg) kc0 ?_;refine⟨k+1,?_,kN (kc2 @hst.symm @yP.{0,0}) [],?_⟩
            ·exact⟨by omega,ZBd hy hx hgk hin.1 hin.2 hd⟩
            ·omega
           ·have hbad:=Zri (c:=v) hy hx (.inr (.inr (by omega)));rw[hbad];refine kw1 kO (kc4 hy hx hrl hg) kc0 ?_
            all_goals exact⟨_,rfl,rfl,Zaj rfl,trivial⟩
          ·have hbad:=Zri (c:=v) hy hx (by omega);rw[hbad];refine kw kO (kc3 hy hx hrl) kc0 ?_
           repeat' first|exact True.intro|refine Bn.mk ?_ ?_|intro hc
           all_goals exact⟨_,rfl,rfl,Zaj rfl,trivial⟩
         ·have:k=y.length:=by omega
          subst this;have hpf:=Zyu hy;refine kw1 kO (kc1 hy) kc0 ?_;refine⟨i+1,?_,kN (kc1 hpf) [],?_⟩
          ·exact⟨by omega,by rw[<-hpf];exact hgk⟩
          ·omega
       ·have:i=ls.length:=by omega
        subst this;rw[yF]at hgood
        try dsimp only
        rw[yF,hgood];refine kw1 kO kc0 kc0 ?_;exact⟨_,rfl,ZcK (o:=43) rfl rfl (by simp[Zeq]) (uG (by simp[Zeq])),Zaj rfl,trivial⟩
def ZgB (a:Lv)(o:List Int):Bool:=decide (0<=a.1/\a.1<=o.length/\a.1<=64/\a.2.2.2.length<=256)&& !a.2.2.2.any ZdF
def Zcd (a:Lv):Gr×List Int×Bool:=match Zcm a.2.1 with
 |none=>((0,[]),[],false)
 |some o=>if ZgB a o then(ZaS a,o.take a.1.toNat,true)else((0,[]),[],false)
def Zh3 (a:Lv):Bool:=(Zcd a).2.2&&decide ((ZaG (Zcd a).1 (Zcd a).2.1).2=0)&&ZeY (ZaG (Zcd a).1 (Zcd a).2.1).1 (ZcH a)
theorem ZyN (a:Lv)(hw:wide a):Zaa Tryz.prog 54 [lvD a] (.tup [gD (Zcd a).1,Zab (Zcd a).2.1, .bool (Zcd a).2.2]):=by
 have hr:=ZiR a hw;obtain⟨m,ls,ar,cs⟩:=a;dsimp only at hr;have hsf:Zcd (m,ls,ar,cs)=match Zcm ls with
  |none=>((0,[]),[],false)
  |some o=>if ZgB (m,ls,ar,cs) o then((m,cs.map Zcg),o.take m.toNat,true)else((0,[]),[],false):=rfl
 rw[hsf];rcases hrf:Zcm ls with _|o
 ·rw[hrf]at hr;dsimp only[Option.getD_none,Option.isSome_none]at hr;refine kE Tryz.func54 ?_;intro hat B X w0;refine kw1 kO kc0 (kc1 hr) ?_;refine⟨_,rfl,⟨_,_,_,_,rfl,?_⟩,rfl,Zaj rfl,trivial⟩;simp(disch:=omega) only[go_sem,simprocAttr,toD];rfl
 ·rw[hrf]at hr;dsimp only[Option.getD_some,Option.isSome_some]at hr;dsimp only;have hol:o.length<=512:=by
   rw[Zcm]at hrf;split at hrf
   ·cases hrf
   ·split at hrf
    ·cases hrf;rw[Zeq];omega
    ·cases hrf
  refine kE Tryz.func54 ?_;intro hat B X w0;have h3:=ZbZ 0 3 hat rfl rfl;rw[uD]at h3;dsimp only at h3;refine kw kO kc0 (kc1 hr) ?_
  repeat' first|exact True.intro|refine Bn.mk ?_ ?_|intro hc
  all_goals try
   rw[if_neg (by simp[ZgB];omega)];refine⟨_,rfl,⟨_,_,_,_,rfl,?_⟩,rfl,Zaj rfl,trivial⟩;simp(disch:=omega) only[go_sem,simprocAttr,toD];rfl
  obtain⟨n,rfl⟩:∃n:Nat,m=n:=⟨m.toNat,by omega⟩;have hn1:n<=o.length:=by omega
  have hn2:n<=64:=by omega
  have hc2:cs.length<=256:=by omega
  have hso:ZgB ((n:Int),ls,ar,cs) o= !cs.any ZdF:=by
   simp only[ZgB];rw[yN (by omega),kJ]
  rw[hso];refine Zas _ (Zcy 7 1 901 2 rfl rfl rfl) ?_;refine Zaf (λ(k:Nat)=>k<=cs.length/\∀(j:Nat) y,j<k->cs[j]? =some y->ZdF y=false) (λ k=>[(1, .ptr 1 0 0 0),(2, .ptr 2 0 0 0),(5, .d (Zab o)),(7, .ptr 7 0 0 0),(8, .int k)]) (λ k=>[(1, .cells [.int n, .d (Zae ls), .d (Zak ar), .d (Zae cs)]),(2, .cells [.int 0, .nilS]),(7, .cells [.int n, .ref 901 2 0 k k]),(901, .row 2 (((cs.take k).map Zcg).map ZaZ))]) (λ k=>cs.length-k) 0 ?_ ?_ ?_
  ·exact⟨uI _,λ j y h=>by omega⟩
  ·exact kN (kc2 @qC.{0} @yS.{0,0}) []
  ·rintro k ⟨hk,hinv⟩;rcases uF k cs.length with hlt|hge
   ·obtain⟨c,hc0⟩:=Zad hlt;by_cases hsc:c.length<2
    ·have:cs.any ZdF=true:=Zb8 hc0 (by simpa[ZdF]using hsc);rw[this];refine kw1 kO (kc1 hc0) kc0 ?_;refine⟨_,rfl,⟨_,_,_,_,rfl,?_⟩,rfl,Zaj rfl,trivial⟩;simp(disch:=omega) only[go_sem,simprocAttr,toD];rfl
    ·have hcl:c.length<=9223372036854775807:=by have:=Zp2 (m:=c.map D.int) (k:=k) 0 3 hat rfl rfl (by rw[uJ,hc0];rfl);rwa [uD]at this
     have e1:=ZaK (r:=c) (i:=0) (by omega);have e2:=Zdu (r:=c) (v:=(c.length:Int)-1) (by omega) (by omega);have hts:=ZaB hc0;have hlk:(((cs.take k).map Zcg).map ZaZ).length=k:=by rw[uD,uD,uS];omega
     have htk:List.take k (((cs.take k).map Zcg).map ZaZ)=((cs.take k).map Zcg).map ZaZ:=uG (by rw[hlk];exact uH _);refine kw1 kO (kc4 hc0 e1 e2 hlk) kc0 ?_;refine⟨k+1,?_,kN (kc3 hts @uU.{0,0} htk) [(901,73)],?_⟩
     ·exact⟨by omega,Zbe hinv hc0 (by simpa[ZdF]using hsc)⟩
     ·omega
   ·have:k=cs.length:=by omega
    subst this;have hsc:cs.any ZdF=false:=Zcq λ j y hj=>hinv j y hj
    try dsimp only
    rw[yF,hsc,if_pos (by decide)];have hlA:((cs.map Zcg).map ZaZ).length=cs.length:=by simp
    refine kw1 kO kc0 kc0 ?_;refine⟨_,rfl,⟨_,_,_,_,rfl,?_⟩,?_,Zaj rfl,trivial⟩
    ·simp(disch:=omega) only[go_sem,simprocAttr,toD,hlA,uH,qU];rw[uG (by rw[hlA];exact uH _)]
    ·exact Zdd (by rw[Ai])
theorem Zo3 {a:Lv}(h:(Zcd a).2.2=true):a.2.1.length<=256/\tot a.2.1<=512:=by
 rw[Zcd]at h;split at h
 ·cases h
 ·rename_i o ho;rw[Zcm]at ho;split at ho
  ·cases ho
  ·omega
theorem ZlP (a:Lv)(hw:wide a):Zaa Tryz.prog 15 [lvD a] (.bool (Zh3 a)):=by
 have hs:=ZyN a hw;have hb:=ZA0 (Zcd a).1 (Zcd a).2.1;have hm:=ZAF (ZaG (Zcd a).1 (Zcd a).2.1).1 (ZcH a);rcases h1:(Zcd a).2.2 with _|_
 ·rw[h1]at hs;rw[Zh3,h1];refine kE Tryz.func15 ?_;intro hat B X w0;refine kw1 kO kc0 (kc1 hs) ?_;exact Zaj rfl
 ·rw[h1]at hs;rw[Zh3,h1];obtain⟨t1,t2⟩:=Zo3 h1;have hp:=Zwt a (by omega) (λ y hy=>by have:=ZcU hy;omega);generalize Zcd a=S at*;generalize ZaG S.1 S.2.1=BF at*;obtain⟨b,e⟩:=BF;dsimp only at hb hm|-;by_cases he:e=0
  ·subst he;rcases hsv:ZeY b (ZcH a)with _|_<;>rw[hsv]at hm
   all_goals
    refine kE Tryz.func15 ?_;intro hat B X w0;refine kw1 kO kc0 (kc4 hs hb hp hm) ?_;exact Zaj rfl
  ·refine kE Tryz.func15 ?_;intro hat B X w0;refine kw1 kO (kc1 he) (kc4 hs hb hp hm) ?_;refine Zaj ?_;simp[he]
end Go.Proofs.YtjjbhjnpeenbkaaGreatDoor
