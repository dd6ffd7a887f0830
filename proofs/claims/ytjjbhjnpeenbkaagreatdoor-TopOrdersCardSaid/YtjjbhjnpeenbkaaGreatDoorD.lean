/- Levels built by the reference: the walk. -/
import Derived.Test.YtjjbhjnpeenbkaaGreatDoorTypes
set_option linter.unusedSimpArgs false
set_option linter.unusedVariables false
set_option maxHeartbeats 16000000
namespace Go.Proofs.YtjjbhjnpeenbkaaGreatDoor
open Go Go.PS Go.Proofs
set_option maxRecDepth 100000
attribute [local irreducible] Zab wpG Zaa Zaf
theorem ZfY (r:List Int):∀d,d∈List.map D.int r->d.cells.length=1:=by
 intro d hd;obtain⟨x,_,rfl⟩:=uN.1 hd;rfl
def hiN (r:List Int):Nat->Int
 |0=>-1
 |k+1=>max (hiN r k) (at0 r k)
theorem ZoH {r:List Int}(h:∀v:Nat,0<=at0 r v):∀k:Nat,hiN r (k+1)=Zch r k
 |0=>by
  have h0:=h 0;show max (-1) (at0 r ((0:Nat):Int))=at0 r ((0:Nat):Int);omega
 |k+1=>by rw[hiN,ZoH h k,Zch]
def Zbs (all:List Int)(k:Nat):List (List Int):=(List.range k).map λ j=>ZaT all j
theorem ZuV (all:List Int)(k:Nat):Zbs all (k+1)=Zbs all k++[ZaT all k]:=by simp[Zbs,gG]
theorem ZlD (all:List Int)(k:Nat):(Zbs all k).length=k:=by simp[Zbs]
theorem Zu8 (n:Nat)(l:List Arc)(r:List Int)(hrn:r.length=n)(hn:n<=64)(hl:l.length<=256)(g4:∀(k:Nat) (a:Arc),l[k]? =some a->0<=a.1/\a.1<n/\0<=a.2/\a.2<n)
  (h5:∀v:Nat,0<=at0 r v/\at0 r v<=255)(hgap:∀(k:Nat) a,l[k]? =some a->0<=at0 r a.2-at0 r a.1-1)(hbig:(n:Int)+ZaV r l l.length<=512):
  Zaa Tryz.prog 113 [gD (n,l),Zac r] (lvD (Zea (n,l) r)):=by
 have allR_len:∀e,e<=l.length->(Zaz r l e).length<=512:=λ e he=>by
  have h1:=Zja hgap e he;have h2:=Zq1 hgap l.length e he;omega
 have hA0:Zaz r l 0=r:=by simp[Zaz]
 refine kE Tryz.func113 ?_;intro hat B X w0;refine kw1 (kow (Nat.beq 20) (b:=true)) (kc1 hrn) kc0 ?_;refine Zau _ (Zcr 5 1 905 1 rfl rfl rfl) ?_;refine Zau _ (Zcr 5 2 901 2 rfl rfl rfl) ?_;refine Zau _ (Zcr 5 3 902 1 rfl rfl rfl) ?_;refine Zai (λ(e:Nat)=>e<=l.length) (λ e=>[(1, .d (Zac r)),(2, .ptr 2 0 0 0),(4, .ptr 4 0 0 0),(5, .ptr 5 0 0 0),(6, .ref 904 1 0 (Zaz r l e).length (Zaz r l e).length),(7, .int e)]) (λ e=>[(2, .cells [.int n, .d (Zak l)]),(4, .cells [.int 0, .nilS, .nilS, .nilS]),(5, .cells [.int n, .ref 905 1 0 0 0, .ref 901 2 0 (ZaO r l e).length (ZaO r l e).length, .ref 902 1 0 (ZaW r l e).length (ZaW r l e).length]),(905, .row 1 []),(901, .row 2 ((ZaO r l e).map ZaY)),(902, .row 1 ((ZaW r l e).map Zac)),(904, .row 1 ((Zaz r l e).map D.int))]) (λ e=>l.length-e) 0 ?_ ?_ ?_
 ·exact uJ _
 ·exact kN (kc2 hA0 hrn) [(904,22)]
 ·intro e he;rcases uF e l.length with hel|hel
  ·obtain⟨a,ha⟩:=Zad hel;have hai:=g4 e a ha;have hga:=hgap e a ha;have e1:=Zen (r:=r) (v:=a.1) hai.1 (by omega);have e2:=Zen (r:=r) (v:=a.2) hai.2.2.1 (by omega);have f1:=h5 a.1.toNat;have f2:=h5 a.2.toNat;rw[show((a.1.toNat:Nat):Int)=a.1 by omega]at f1;rw[show((a.2.toNat:Nat):Int)=a.2 by omega]at f2;have hgn:(ZaC r a:Int)=at0 r a.2-at0 r a.1-1:=by rw[ZaC];omega
   have hall:=ZhV (r:=r) ha;have hal:=allR_len e he;have hafl:=Zje hgap e he;generalize hA:Zaz r l e=all at hal hall hafl
   try dsimp only
   try rw[hA]
   refine kw1 (kow (Nat.beq 37) (b:=true)) (kc3 ha e1 hrn) kc0 ?_;refine Zai (λ(u:Nat)=>u<=ZaC r a) (λ u=>[(1, .d (Zac r)),(2, .ptr 2 0 0 0),(4, .ptr 4 0 0 0),(5, .ptr 5 0 0 0),(6, .ref 904 1 0 (all.length+u) (all.length+u)),(7, .int e),(8, .ptr 8 0 0 0),(9, .ref 903 1 0 (u+1) (u+1)),(10, .int (at0 r a.1+1+u))]) (λ u=>[(2, .cells [.int n, .d (Zak l)]),(4, .cells [.int 0, .nilS, .nilS, .nilS]),(8, .cells [.int a.1, .int a.2]),(5, .cells [.int n, .ref 905 1 0 0 0, .ref 901 2 0 (ZaO r l e).length (ZaO r l e).length, .ref 902 1 0 (ZaW r l e).length (ZaW r l e).length]),(905, .row 1 []),(901, .row 2 ((ZaO r l e).map ZaY)),(902, .row 1 ((ZaW r l e).map Zac)),(904, .row 1 ((all++Zal r a u).map D.int)),(903, .row 1 ((Zcc all.length a u).map D.int))]) (λ u=>ZaC r a-u) 0 ?_ ?_ ?_
   ·exact uJ _
   ·exact kN (kc5 @Zcc.eq_1 @Zal.eq_1 @kC @yO.{0} hA) [(903,37)]
   ·intro u hu;have hcl:=ZgA all.length a u;have hnl:=ZfV r a u;have htk:((Zcc all.length a u).map D.int).take (u+1)=(Zcc all.length a u).map D.int:=uD (by rw[uE,hcl];exact uH _);have hta:((all++Zal r a u).map D.int).take (all.length+u)=(all++Zal r a u).map D.int:=uD (by rw[uE,uC,hnl];exact uH _);rcases uF u (ZaC r a)with hul|hul
    ·have hcs:=ZnS all.length a u;have hns:=Zpw r a u;have hap:all++Zal r a (u+1)=(all++Zal r a u)++[at0 r a.1+1+u]:=by rw[hns,yP]
     have hlu:(all++Zal r a u).length=all.length+u:=by rw[uC,hnl]
     generalize all++Zal r a u=G at*;generalize Zcc all.length a u=c at*;refine kw1 kO (kc6 e2 hrn hcl htk hta hlu) kc0 ?_;refine⟨u+1,?_,eL [(903,57),(904,61)] _ _ (by refine⟨?_,?_⟩<;>(repeat' first|exact fmn|refine fmc ⟨(by first|rfl|(simp(disch:=omega) only[go_sem,simprocAttr,inL,hcs,hap,yB,qI,gP,<-zA,uC,hcl,hlu];first|done|omega|(congr 1;done))),?_⟩);done),?_⟩
     ·omega
     ·omega
    ·have:u=ZaC r a:=by omega
     subst this;have hcd:ZaA r all.length a=Zcc all.length a (ZaC r a)++[a.2]:=rfl;have hcl2:=ZkV r all.length a;refine kw1 kP (kc4 e2 hrn hcl htk) kc0 ?_;refine Zai (λ(j:Nat)=>j<=ZaC r a+1) (λ j=>[(1, .d (Zac r)),(2, .ptr 2 0 0 0),(4, .ptr 4 0 0 0),(5, .ptr 5 0 0 0),(6, .ref 904 1 0 (all.length+ZaC r a) (all.length+ZaC r a)),(7, .int e),(8, .ptr 8 0 0 0),(9, .ref 903 1 0 (ZaC r a+2) (ZaC r a+2)),(11, .int ((j:Int)+1))]) (λ j=>[(2, .cells [.int n, .d (Zak l)]),(4, .cells [.int 0, .nilS, .nilS, .nilS]),(8, .cells [.int a.1, .int a.2]),(5, .cells [.int n, .ref 905 1 0 0 0, .ref 901 2 0 (ZaO r l e++ZbB (ZaA r all.length a) j).length (ZaO r l e++ZbB (ZaA r all.length a) j).length, .ref 902 1 0 (ZaW r l e).length (ZaW r l e).length]),(905, .row 1 []),(901, .row 2 ((ZaO r l e++ZbB (ZaA r all.length a) j).map ZaY)),(902, .row 1 ((ZaW r l e).map Zac)),(904, .row 1 ((all++Zal r a (ZaC r a)).map D.int)),(903, .row 1 ((ZaA r all.length a).map D.int))]) (λ j=>ZaC r a+1-j) 0 ?_ ?_ ?_
     ·exact uJ _
     ·exact kN (kc5 hcd @yB.{0,0} @ZbB.eq_1 @kC @yO.{0}) [(903,66)]
     ·intro j hj;have hpl:=Zl0 (ZaA r all.length a) j;rcases uF j (ZaC r a+1)with hjl|hjl
      ·have gc1:=ZaS (r:=ZaA r all.length a) (i:=j) (by omega);have gc2:=ZaS (r:=ZaA r all.length a) (i:=j+1) (by omega);have en:((j:Int)+1).toNat=j+1:=by omega
       have hps:=ZpO (ZaA r all.length a) j;have hpa:ZaY (ZfZ (ZaA r all.length a) j)= .ag [.int (at0 (ZaA r all.length a) j), .int (at0 (ZaA r all.length a) ((j+1:Nat):Int))]:=rfl;have hap:ZaO r l e++ZbB (ZaA r all.length a) (j+1)=(ZaO r l e++ZbB (ZaA r all.length a) j)++[ZfZ (ZaA r all.length a) j]:=by rw[hps,yP]
       have hal2:(ZaO r l e++ZbB (ZaA r all.length a) j).length<=2000:=by rw[uC];omega
       try dsimp only
       generalize ZaA r all.length a=c at*;generalize hG:ZaO r l e++ZbB c j=G at*;refine kw1 kO (kc6 gc1 gc2 en hcl2 @Cb @Zat) kc0 ?_;refine⟨j+1,?_,kN (kc8 hap @yB.{0,0} @uC.{0} @uV.{0} @uY.{0} hpa @qI @gP) [(901,86)],?_⟩
       ·omega
       ·omega
      ·have:j=ZaC r a+1:=by omega
       subst this;have hcf:ZaW r l (e+1)=ZaW r l e++[ZaA r all.length a]:=by rw[ZaW,Zbm,Zh0,ha,hA];rfl
       have haf:ZaO r l (e+1)=ZaO r l e++ZbB (ZaA r all.length a) (ZaC r a+1):=by rw[ZaO,Zbm,ZhX,ha,hA];rfl
       have hcfl:=Zjp r l e he;have hnl:=ZfV r a (ZaC r a);have hcd2:((ZaA r all.length a).map D.int).take (ZaC r a+2)=(ZaA r all.length a).map D.int:=uD (by rw[uE,hcl2];exact uH _);have hcft:((ZaW r l e).map Zac).take e=(ZaW r l e).map Zac:=uD (by rw[uE,hcfl];exact uH _);refine Zau _ (Zc2 903 1 ((ZaA r all.length a).map D.int) rfl (ZcP _ rfl) (by decide)) ?_;refine kw1 kO (kc5 hcl2 @uE.{0,0} hcd2 hcfl @Zat) kc0 ?_;refine⟨e+1,?_,kN (kc8 hcf haf hall @yB.{0,0} @uC.{0} @uV.{0} @uY.{0} (kc7 hnl @qI @gP hcl2 hcd2 hcfl hcft)) [(902,92)],?_⟩
       ·omega
       ·omega
  ·have:e=l.length:=by omega
   subst this;have hal:=allR_len l.length (uH _);have hmd:Zea (n,l) r=((n:Int),if(n:Int)=0 then[]else(List.range (Zch r (r.length-1)+1).toNat).map λ k=>ZaT (Zaz r l l.length) k,ZaO r l l.length,ZaW r l l.length):=rfl;rw[hmd];generalize Zaz r l l.length=A at hal|-;generalize ZaO r l l.length=E;generalize ZaW r l l.length=C;refine kw1 kO kc0 kc0 ?_;refine Zai (λ(v:Nat)=>v<=n) (λ v=>[(1, .d (Zac r)),(2, .ptr 2 0 0 0),(4, .ptr 4 0 0 0),(5, .ptr 5 0 0 0),(6, .ref 904 1 0 A.length A.length),(12, .int (hiN r v)),(13, .int v)]) (λ v=>[(2, .cells [.int n, .d (Zak l)]),(4, .cells [.int 0, .nilS, .nilS, .nilS]),(5, .cells [.int n, .ref 905 1 0 0 0, .ref 901 2 0 E.length E.length, .ref 902 1 0 C.length C.length]),(905, .row 1 ([])),(901, .row 2 (E.map ZaY)),(902, .row 1 (C.map Zac)),(904, .row 1 (A.map D.int))]) (λ v=>n-v) 0 ?_ ?_ ?_
   ·exact uJ _
   ·exact kN (kc1 @hiN.eq_1) []
   ·intro v hv;rcases uF v n with hvn|hvn
    ·have gv:=ZaS (r:=r) (i:=v) (by omega);refine kw1 kO (kc2 gv hrn) kc0 ?_;refine⟨v+1,?_,kN (kc2 @hiN.eq_1 @ZjC) [],?_⟩
     ·omega
     ·omega
    ·have:n=v:=by omega
     subst this;obtain⟨H,hH⟩:∃H:Nat,hiN r n+1=H/\H<=256/\(if(n:Int)=0 then[]else(List.range (Zch r (r.length-1)+1).toNat).map λ k=>ZaT A k)=Zbs A H:=by
      rcases qT n with h0|h0
      ·refine⟨0,?_,by omega,?_⟩
       ·rw[h0,hiN];rfl
       ·rw[if_pos (by omega)];rfl
      ·obtain⟨m,rfl⟩:∃m,n=m+1:=⟨n-1,by omega⟩;have e1:=ZoH (λ v=>(h5 v).1) m;have e2:=ZjK (λ j=>(h5 j).2) m;have e3:=Zht r m 0 (by omega);have e4:=h5 0;refine⟨(Zch r m+1).toNat,by omega,by omega,?_⟩;rw[if_neg (by omega),hrn,zY];rfl
     obtain⟨hH,hH2,hH3⟩:=hH;rw[hH3];generalize hiN r n=hi at hH|-;refine kw1 kO kc0 kc0 ?_;refine Zai (λ(k:Nat)=>k<=H) (λ k=>[(1, .d (Zac r)),(2, .ptr 2 0 0 0),(4, .ptr 4 0 0 0),(5, .ptr 5 0 0 0),(6, .ref 904 1 0 A.length A.length),(12, .int hi),(14, .int k)]) (λ k=>[(2, .cells [.int n, .d (Zak l)]),(4, .cells [.int 0, .nilS, .nilS, .nilS]),(5, .cells [.int n, .ref 905 1 0 k k, .ref 901 2 0 E.length E.length, .ref 902 1 0 C.length C.length]),(905, .row 1 ((Zbs A k).map Zac)),(901, .row 2 (E.map ZaY)),(902, .row 1 (C.map Zac)),(904, .row 1 (A.map D.int))]) (λ k=>H-k) 0 ?_ ?_ ?_
     ·exact uJ _
     ·exact kN (kc3 @Zbs.eq_1 @kC @yT.{0,0}) []
     ·intro k hk;rcases uF k H with hkH|hkH
      ·have hlk:=ZlD A k;refine kw1 kO kc0 kc0 ?_;refine Zau _ (Zd5 15 906 1 rfl rfl) ?_;refine Zai (λ(i:Nat)=>i<=A.length) (λ i=>[(1, .d (Zac r)),(2, .ptr 2 0 0 0),(4, .ptr 4 0 0 0),(5, .ptr 5 0 0 0),(6, .ref 904 1 0 A.length A.length),(12, .int hi),(14, .int k),(15, .ref 906 1 0 (ZaT (A.take i) k).length (ZaT (A.take i) k).length),(16, .int i)]) (λ i=>[(2, .cells [.int n, .d (Zak l)]),(4, .cells [.int 0, .nilS, .nilS, .nilS]),(5, .cells [.int n, .ref 905 1 0 k k, .ref 901 2 0 E.length E.length, .ref 902 1 0 C.length C.length]),(905, .row 1 ((Zbs A k).map Zac)),(901, .row 2 (E.map ZaY)),(902, .row 1 (C.map Zac)),(904, .row 1 (A.map D.int)),(906, .row 1 ((ZaT (A.take i) k).map D.int))]) (λ i=>A.length-i) 0 ?_ ?_ ?_
       ·exact uJ _
       ·exact kN (kc6 @ZaT.eq_1 @yY.{0} @kC @uY.{0} @zK.{0} @yT.{0,0}) []
       ·intro i hi2;have hll:=ZlB (A.take i) k;rw[uS]at hll;rcases uF i A.length with hiA|hiA
        ·have gi:=ZaS hiA;have hst:ZaT (A.take (i+1)) k=if at0 A i=k then ZaT (A.take i) k++[(i:Int)]else ZaT (A.take i) k:=by
          rw[ZaD gi,ZlC,uS,jA (by omega)]
         generalize ZaT (A.take i) k=L at hst hll|-;by_cases hx:at0 A i=k
         ·rw[if_pos hx]at hst;refine kw1 kO (kc3 gi hx @Zat) kc0 ?_;refine⟨i+1,?_,kN (kc5 hst @yB.{0,0} @uC.{0} @uV.{0} @uY.{0}) [(906,126)],?_⟩
          ·omega
          ·omega
         ·rw[if_neg hx]at hst;refine kw1 kO (kc2 gi @Zat) kc0 ?_;refine⟨i+1,?_,kN (kc1 hst) [],?_⟩
          ·omega
          ·omega
        ·have:i=A.length:=by omega
         subst this;have hAA:A.take A.length=A:=yI;rw[hAA]at hll;have hls:=ZuV A k;have hlt:((Zbs A k).map Zac).take k=(Zbs A k).map Zac:=uD (by rw[uE,hlk];exact uH _)
         try dsimp only
         rw[hAA];refine Zau _ (Zc2 906 1 ((ZaT A k).map D.int) rfl (ZcP _ rfl) (by decide)) ?_;refine kw1 kO (kc3 @uE.{0,0} hlk @Zat) kc0 ?_;refine⟨k+1,?_,kN (kc8 hls @yB.{0,0} @uC.{0} @uV.{0} @uY.{0} hlk hlt (kc2 @qI @gP)) [(905,131)],?_⟩
         ·omega
         ·omega
      ·have:k=H:=by omega
       subst this;have hlk:=ZlD A k;refine kw1 kO kc0 kc0 ?_;have hlt:((Zbs A k).map Zac).take k=(Zbs A k).map Zac:=uD (by rw[uE,hlk];exact uH _);refine⟨_,_,_,_,rfl,?_⟩;simp(disch:=omega) only[go_sem,simprocAttr,toD,hlk,hlt,Zat]
theorem ZwJ (g:Gr)(r:List Int)(h:gOk g=false\/(r.length:Int)≠g.1):Zaa Tryz.prog 55 [gD g,Zac r] (.tup [lvD lv0, .int 1]):=by
 have hv:=ZiL g;rcases h1:gOk g with _|_<;>rw[h1]at hv
 ·refine kE Tryz.func55 ?_;intro hat B X w0;refine kw1 kO kc0 (kc1 hv) ?_
  all_goals
   refine⟨_,rfl,⟨_,_,_,_,rfl,?_⟩,Zah ?_,trivial⟩
   ·simp(disch:=omega) only[go_sem,simprocAttr,toD];rfl
   ·rfl
 ·have h2:(r.length:Int)≠g.1:=by
   rcases h with h|h
   ·rw[h1]at h;exact absurd h (by decide)
   ·exact h
  refine kE Tryz.func55 ?_;intro hat B X w0;have hl:=Zbb 1 hat rfl;rw[uE]at hl;refine kw1 kO (kc1 h2) (kc1 hv) ?_
  all_goals
   refine⟨_,rfl,⟨_,_,_,_,rfl,?_⟩,Zah ?_,trivial⟩
   ·simp(disch:=omega) only[go_sem,simprocAttr,toD];rfl
   ·rfl
theorem ZwK (g:Gr)(r:List Int)(h1:gOk g=true)(h2:(r.length:Int)=g.1):Zaa Tryz.prog 55 [gD g,Zac r] (.tup [lvD (ZaH g r).1, .int (ZaH g r).2]):=by
 have hv:=ZiL g;obtain⟨g1,g2,g3,g4⟩:=Zhl h1;have hbf:ZaH g r=if r.any ZcF then(lv0,1)else if g.2.any Zc7 then(lv0,8)else if g.2.any (Zcn r)then(lv0,3)else if 512<g.1+ZaV r g.2 g.2.length then(lv0,2)else(Zea g r,0):=by
  rw[ZaH,Zdr,h1];cases r.any ZcF<;>simp[h2]
 rw[h1]at hv;obtain⟨m,l⟩:=g;dsimp only at g1 g2 g3 g4 h2 hbf;obtain⟨n,rfl⟩:∃n:Nat,m=n:=⟨m.toNat,by omega⟩;have hrn:r.length=n:=by omega
 refine kE Tryz.func55 ?_;intro hat B X w0;refine kw1 kO (kc1 hrn) (kc1 hv) ?_;refine Zai (λ(k:Nat)=>k<=n/\∀(j:Nat) y,j<k->r[j]? =some y->ZcF y=false) (λ k=>[(1, .d (Zac r)),(2, .ptr 2 0 0 0),(4, .ptr 4 0 0 0),(6, .int k)]) (λ k=>[(2, .cells [.int n, .d (Zak l)]),(4, .cells [.int 0, .nilS, .nilS, .nilS])]) (λ k=>n-k) 0 ?_ ?_ ?_
 ·exact⟨uJ _,λ j y h=>by omega⟩
 ·exact kN kc0 []
 ·rintro k ⟨hk,hinv⟩;rcases uF k n with hlt|hge
  ·have gk:=ZaS (r:=r) (i:=k) (by omega);rcases hrb:ZcF (at0 r k)with _|_
   ·have hb:0<=at0 r k/\at0 r k<=255:=by
     simp only[ZcF,qJ]at hrb;omega
    refine kw1 kO (kc2 gk hrn) kc0 ?_;refine⟨k+1,?_,kN kc0 [],?_⟩
    ·exact⟨by omega,ZbI hinv gk hrb⟩
    ·omega
   ·have hany:r.any ZcF=true:=ZcZ gk hrb;rw[hbf,if_pos hany];simp only[ZcF,uG]at hrb;refine kw kO (kc2 gk hrn) kc0 ?_
    repeat' first|exact True.intro|refine Bn.mk ?_ ?_|intro hc
    all_goals
     refine⟨_,rfl,⟨_,_,_,_,rfl,?_⟩,Zah ?_,trivial⟩
     ·simp(disch:=omega) only[go_sem,simprocAttr,toD];rfl
     ·rfl
  ·have:n=k:=by omega
   subst this;have hany:r.any ZcF=false:=ZdB λ j y hj=>hinv j y (by omega)
   have hrk:Zdr ((n:Int),l) r=true:=by simp[Zdr,h1,hrn,hany]
   obtain⟨_,_,_,h5⟩:=ZjZ hrk;have hsum:=ZmA (r:=r) (l:=l) h5 (λ k a ha=>by have:=g4 k a ha;omega);rw[hany]at hbf;simp only[qB,jE]at hbf;refine kw1 kO kc0 kc0 ?_;refine Zai (λ(k:Nat)=>k<=l.length/\∀(j:Nat) y,j<k->l[j]? =some y->Zc7 y=false) (λ k=>[(1, .d (Zac r)),(2, .ptr 2 0 0 0),(4, .ptr 4 0 0 0),(7, .int k)]) (λ k=>[(2, .cells [.int n, .d (Zak l)]),(4, .cells [.int 0, .nilS, .nilS, .nilS])]) (λ k=>l.length-k) 0 ?_ ?_ ?_
   ·exact⟨uJ _,λ j y h=>by omega⟩
   ·exact kN kc0 []
   ·rintro k ⟨hk,hinv⟩;rcases uF k l.length with hlt|hge
    ·obtain⟨a,ha⟩:=Zad hlt;rcases hlf:Zc7 a with _|_
     ·have hne:¬a.1=a.2:=by simpa[Zc7]using hlf
      refine kw1 kO (kc1 ha) kc0 ?_;refine⟨k+1,?_,kN kc0 [],?_⟩
      ·exact⟨by omega,ZbI hinv ha hlf⟩
      ·omega
     ·have hany:l.any Zc7=true:=ZcZ ha hlf;have hne:a.1=a.2:=by simpa[Zc7]using hlf
      rw[hbf,if_pos hany];refine kw1 kO (kc1 ha) kc0 ?_;refine⟨_,rfl,⟨_,_,_,_,rfl,?_⟩,Zah ?_,trivial⟩
      ·simp(disch:=omega) only[go_sem,simprocAttr,toD];rfl
      ·rfl
    ·have:k=l.length:=by omega
     subst this;have hany:l.any Zc7=false:=ZdB λ j y hj=>hinv j y (by omega)
     rw[hany]at hbf;simp only[qB,jE]at hbf;refine kw1 kO kc0 kc0 ?_;refine Zai (λ(k:Nat)=>k<=l.length/\∀(j:Nat) y,j<k->l[j]? =some y->Zcn r y=false) (λ k=>[(1, .d (Zac r)),(2, .ptr 2 0 0 0),(4, .ptr 4 0 0 0),(8, .int (n+ZaV r l k)),(9, .int k)]) (λ k=>[(2, .cells [.int n, .d (Zak l)]),(4, .cells [.int 0, .nilS, .nilS, .nilS])]) (λ k=>l.length-k) 0 ?_ ?_ ?_
     ·exact⟨uJ _,λ j y h=>by omega⟩
     ·exact kN (kc2 @ZaV.eq_1 @jU) []
     ·rintro k ⟨hk,hinv⟩;have hsk:=hsum k;rcases uF k l.length with hlt|hge
      ·obtain⟨a,ha⟩:=Zad hlt;have hai:=g4 k a ha;have e1:=Zen (r:=r) (v:=a.1) hai.1 (by omega);have e2:=Zen (r:=r) (v:=a.2) hai.2.2.1 (by omega);have f1:=h5 a.1.toNat;have f2:=h5 a.2.toNat;rw[show((a.1.toNat:Nat):Int)=a.1 by omega]at f1;rw[show((a.2.toNat:Nat):Int)=a.2 by omega]at f2;have hss:ZaV r l (k+1)=ZaV r l k+(at0 r a.2-at0 r a.1-1):=by rw[ZaV,ha]
       rcases hup:Zcn r a with _|_
       ·have hup2:=hup;rw[Zcn,qJ]at hup2;refine kw1 kO (kc4 ha e1 e2 hrn) kc0 ?_;refine⟨k+1,?_,kN (kc2 hss @zA) [],?_⟩
        ·exact⟨by omega,ZbI hinv ha hup⟩
        ·omega
       ·have hany:l.any (Zcn r)=true:=ZcZ ha hup;rw[Zcn,uG]at hup;rw[hbf,if_pos hany];refine kw1 kO (kc4 ha e1 e2 hrn) kc0 ?_;refine⟨_,rfl,⟨_,_,_,_,rfl,?_⟩,Zah ?_,trivial⟩
        ·simp(disch:=omega) only[go_sem,simprocAttr,toD];rfl
        ·rfl
      ·have:k=l.length:=by omega
       subst this;have hany:l.any (Zcn r)=false:=ZdB λ j y hj=>hinv j y (by omega)
       rw[hbf,if_neg (by rw[hany];decide)];by_cases hbig:512<(n:Int)+ZaV r l l.length
       ·rw[if_pos hbig];refine kw1 kO kc0 kc0 ?_;refine⟨_,rfl,⟨_,_,_,_,rfl,?_⟩,Zah ?_,trivial⟩
        ·simp(disch:=omega) only[go_sem,simprocAttr,toD];rfl
        ·rfl
       ·rw[if_neg hbig];have hgap:∀(k:Nat) a,l[k]? =some a->0<=at0 r a.2-at0 r a.1-1:=λ k a ha=>by
         have:=qU.1 hany a (uA ha);rw[Zcn,uG]at this;omega
        have hm:=Zu8 n l r hrn (by omega) g3 g4 h5 hgap (by omega);refine kw1 kO kc0 (kc1 hm) ?_;refine⟨_,rfl,⟨_,_,_,_,rfl,?_⟩,Zah ?_,trivial⟩
        ·simp(disch:=omega) only[go_sem,simprocAttr,toD]
        ·rfl
theorem ZwL (g:Gr)(r:List Int):Zaa Tryz.prog 55 [gD g,Zac r] (.tup [lvD (ZaH g r).1, .int (ZaH g r).2]):=by
 by_cases h:gOk g=true/\(r.length:Int)=g.1
 ·exact ZwK g r h.1 h.2
 ·have hr:Zdr g r=false:=by
   rw[Zdr];rcases h1:gOk g with _|_
   ·simp
   ·have h2:¬(r.length:Int)=g.1:=λ h2=>h ⟨h1,h2⟩
    simp[h2]
  have e:ZaH g r=(lv0,1):=by rw[ZaH,if_pos hr]
  rw[e];refine ZwJ g r ?_;rcases h1:gOk g with _|_
  ·exact .inl rfl
  ·exact .inr λ h2=>h ⟨h1,h2⟩
theorem ZxI (l m:List Int):Zaa Tryz.prog 140 [Zac l,Zac m] (.bool (decide (l=m))):=by
 refine kE Tryz.func140 ?_;intro hat B X w0;have hl:=Zbb 0 hat rfl;have hm:=Zbb 1 hat rfl;rw[uE]at hl hm;by_cases hlm:l.length=m.length
 ·refine kw1 kO kc0 kc0 ?_;refine Zai (λ(k:Nat)=>k<=l.length/\l.take k=m.take k) (λ k=>[(0, .d (Zac l)),(1, .d (Zac m)),(5, .int k)]) (λ k=>[]) (λ k=>l.length-k) 0 ?_ ?_ ?_
  ·exact⟨uJ _,rfl⟩
  ·exact kN kc0 []
  ·rintro k ⟨hk,hinv⟩;rcases uF k l.length with hlt|hge
   ·obtain⟨p,hp⟩:=Zad hlt;obtain⟨q,hq⟩:=Zad (hlm▸hlt);refine kw kO (kc2 hp hq) kc0 ?_
    repeat' first|exact True.intro|refine Bn.mk ?_ ?_|intro hc
    ·refine Zaj ?_;rw[yC (Zgm hp hq hc)]
    ·refine⟨k+1,?_,eL [] _ _ (by refine⟨?_,?_⟩<;>(repeat' first|exact fmn|refine fmc ⟨(by first|rfl|(simp(disch:=omega) only[go_sem,simprocAttr,inL];first|done|omega|(congr 1;done))),?_⟩);done),?_⟩
     ·exact⟨by omega,by rw[ZaD hp,ZaD hq,hinv,hc]⟩
     ·omega
   ·refine kw1 kO kc0 kc0 ?_;refine Zaj ?_;rw[uD hge,uD (by omega)]at hinv;simp[hinv]
 ·refine kw1 kO kc0 kc0 ?_;refine Zaj ?_;rw[yC];rintro rfl;exact hlm rfl
theorem ZqB (l m:List (List Int)):Zaa Tryz.prog 83 [Zae l,Zae m] (.bool (decide (l=m))):=by
 refine kE Tryz.func83 ?_;intro hat B X w0;have hl:=Zbb 0 hat rfl;have hm:=Zbb 1 hat rfl;rw[uE]at hl hm;by_cases hlm:l.length=m.length
 ·refine kw1 kO kc0 kc0 ?_;refine Zai (λ(k:Nat)=>k<=l.length/\l.take k=m.take k) (λ k=>[(0, .d (Zae l)),(1, .d (Zae m)),(5, .int k)]) (λ k=>[]) (λ k=>l.length-k) 0 ?_ ?_ ?_
  ·exact⟨uJ _,rfl⟩
  ·exact kN kc0 []
  ·rintro k ⟨hk,hinv⟩;rcases uF k l.length with hlt|hge
   ·obtain⟨p,hp⟩:=Zad hlt;obtain⟨q,hq⟩:=Zad (hlm▸hlt);have he:=ZxI p q;by_cases hpq:p=q
    ·rw[yM hpq]at he;refine kw1 kO (kc2 hp hq) (kc1 he) ?_;refine⟨k+1,?_,kN kc0 [],?_⟩
     ·exact⟨by omega,by rw[ZaD hp,ZaD hq,hinv,hpq]⟩
     ·omega
    ·rw[yC hpq]at he;refine kw1 kO (kc2 hp hq) (kc1 he) ?_;refine Zaj ?_;rw[yC (Zgm hp hq hpq)]
   ·refine kw1 kO kc0 kc0 ?_;refine Zaj ?_;rw[uD hge,uD (by omega)]at hinv;simp[hinv]
 ·refine kw1 kO kc0 kc0 ?_;refine Zaj ?_;rw[yC];rintro rfl;exact hlm rfl
theorem Zqz (l m:List (List Int)):Zaa Tryz.prog 171 [Zae l,Zae m] (.bool (decide (l=m))):=by
 have h:=ZtC l m;refine kE Tryz.func171 ?_;intro hat B X w0;refine kw1 kO kc0 (kc1 h) ?_;exact Zaj rfl
def Zey (a b:Lv):Bool:=decide (a.1=b.1)&&decide (a.2.1=b.2.1)&&decide (a.2.2.1=b.2.2.1)&&decide (a.2.2.2=b.2.2.2)
theorem Zj6 {a b:Lv}:Zey a b=true↔a=b:=by
 obtain⟨a1,a2,a3,a4⟩:=a;obtain⟨b1,b2,b3,b4⟩:=b;simp[Zey,Prod.ext_iff,and_assoc]
theorem ZrO (a b:Lv):Zaa Tryz.prog 107 [lvD a,lvD b] (.bool (Zey a b)):=by
 have h1:=Zqz a.2.1 b.2.1;have h2:=ZtD a.2.2.1 b.2.2.1;have h3:=Zqz a.2.2.2 b.2.2.2;rw[Zey];by_cases e:a.1=b.1
 ·rw[yM e];rcases e1:decide (a.2.1=b.2.1)with _|_<;>rw[e1]at h1<;>rcases e2:decide (a.2.2.1=b.2.2.1)with _|_<;>rw[e2]at h2<;>rcases e3:decide (a.2.2.2=b.2.2.2)with _|_<;>rw[e3]at h3
  all_goals
   refine kE Tryz.func107 ?_;intro hat B X w0;refine kw1 kO (kc1 e) (kc3 h1 h2 h3) ?_;exact Zaj rfl
 ·rw[yC e];refine kE Tryz.func107 ?_;intro hat B X w0;refine kw1 kO (kc1 e) (kc3 h1 h2 h3) ?_;exact Zaj rfl
theorem ZwN (a b:Lv):Zaa Tryz.prog 35 [lvD a,lvD b] (.bool (Zey a b)):=by
 have h1:=ZqB a.2.1 b.2.1;have h3:=ZqB a.2.2.2 b.2.2.2;obtain⟨a1,a2,a3,a4⟩:=a;obtain⟨b1,b2,b3,b4⟩:=b;dsimp only[Zey]at*;have fl:∀x:Bool,x=false->Zaa Tryz.prog 35 [lvD (a1,a2,a3,a4),lvD (b1,b2,b3,b4)] (.bool false)->Zaa Tryz.prog 35 [lvD (a1,a2,a3,a4),lvD (b1,b2,b3,b4)] (.bool x):=λ x hx h=>hx▸h
 by_cases e:a1=b1/\a3.length=b3.length
 ·obtain⟨rfl,e2⟩:=e;rcases e1:decide (a2=b2)with _|_
  ·rw[e1]at h1;refine fl _ (by simp) ?_;refine kE Tryz.func35 ?_;intro hat B X w0;have hla:=Zb3 0 2 hat rfl rfl;have hlb:=Zb3 1 2 hat rfl rfl;rw[uE]at hla hlb;dsimp only at hla hlb;refine kw1 kO (kc1 e2) (kc2 h1 h3) ?_;exact Zaj rfl
  ·rw[e1]at h1;rcases e4:decide (a4=b4)with _|_
   ·rw[e4]at h3;refine fl _ (by simp) ?_;refine kE Tryz.func35 ?_;intro hat B X w0;have hla:=Zb3 0 2 hat rfl rfl;have hlb:=Zb3 1 2 hat rfl rfl;rw[uE]at hla hlb;dsimp only at hla hlb;refine kw1 kO (kc1 e2) (kc2 h1 h3) ?_;exact Zaj rfl
   ·rw[e4]at h3;have er:(decide (a1=a1)&&true&&decide (a3=b3)&&true)=decide (a3=b3):=by simp
    rw[er];refine kE Tryz.func35 ?_;intro hat B X w0;have hla:=Zb3 0 2 hat rfl rfl;have hlb:=Zb3 1 2 hat rfl rfl;rw[uE]at hla hlb;dsimp only at hla hlb;refine kw1 kO (kc1 e2) (kc2 h1 h3) ?_;refine Zai (λ(k:Nat)=>k<=a3.length/\a3.take k=b3.take k) (λ k=>[(2, .ptr 2 0 0 0),(3, .ptr 3 0 0 0),(5, .int k)]) (λ k=>[(2, .cells [.int a1, .d (Zae a2), .d (Zak a3), .d (Zae a4)]),(3, .cells [.int a1, .d (Zae b2), .d (Zak b3), .d (Zae b4)])]) (λ k=>a3.length-k) 0 ?_ ?_ ?_
    ·exact⟨uJ _,rfl⟩
    ·exact kN kc0 []
    ·rintro k ⟨hk,hinv⟩;rcases uF k a3.length with hlt|hge
     ·obtain⟨p,hp⟩:=Zad hlt;obtain⟨q,hq⟩:=Zad (e2▸hlt);refine kw kO (kc3 hp hq @Znl) kc0 ?_
      repeat' first|exact True.intro|refine Bn.mk ?_ ?_|intro hc
      ·refine Zaj ?_;rw[yC (Zgm hp hq hc)]
      ·refine⟨k+1,?_,eL [] _ _ (by refine⟨?_,?_⟩<;>(repeat' first|exact fmn|refine fmc ⟨(by first|rfl|(simp(disch:=omega) only[go_sem,simprocAttr,inL];first|done|omega|(congr 1;done))),?_⟩);done),?_⟩
       ·exact⟨by omega,by rw[ZaD hp,ZaD hq,hinv,hc]⟩
       ·omega
     ·refine kw1 kO kc0 kc0 ?_;refine Zaj ?_;rw[uD hge,uD (by omega)]at hinv;simp[hinv]
 ·refine fl _ ?_ ?_
  ·rcases gU (a1=b1)with h|h
   ·have h2:¬a3=b3:=λ h2=>e ⟨h,by rw[h2]⟩
    simp[h2]
   ·simp[h]
  ·refine kE Tryz.func35 ?_;intro hat B X w0;have hla:=Zb3 0 2 hat rfl rfl;have hlb:=Zb3 1 2 hat rfl rfl;rw[uE]at hla hlb;dsimp only at hla hlb;by_cases h:a1=b1
   ·have h2:¬a3.length=b3.length:=λ h2=>e ⟨h,h2⟩
    refine kw1 kO (kc1 h) (kc2 h1 h3) ?_;exact Zaj rfl
   ·refine kw1 kO (kc1 h) (kc2 h1 h3) ?_;exact Zaj rfl
def ZaN (ls:List (List Int))(v:Int):Int:=ZcD (ls.findIdx? λ y=>y.any λ x=>decide (x=v))
def Zl7 (ls:List (List Int))(v:Int):Int:=match ls.findIdx? (λ y=>y.any λ x=>decide (x=v))with
 |some k=>placeF ((ls[k]?).getD []) v
 |none=>-1
theorem ZpW (l:List Int)(v:Int):decide (0<=placeF l v)=l.any λ x=>decide (x=v):=ZgI _ l
theorem Zjw (a:Lv)(v:Int):Zaa Tryz.prog 106 [lvD a, .int v] (.tup [.int (ZaN a.2.1 v), .int (Zl7 a.2.1 v)]):=by
 obtain⟨n,ls,ar,cs⟩:=a;refine kE Tryz.func106 ?_;intro hat B X w0;have hl:=Zb3 0 1 hat rfl rfl;rw[uE]at hl;dsimp only at hl;refine kw1 kO kc0 kc0 ?_;refine Zai (λ(k:Nat)=>k<=ls.length/\∀(j:Nat) y,j<k->ls[j]? =some y->(y.any λ x=>decide (x=v))=false) (λ k=>[(1, .int v),(2, .ptr 2 0 0 0),(10, .d (Zae ls)),(11, .int ls.length),(12, .int k)]) (λ k=>[(2, .cells [.int n, .d (Zae ls), .d (Zak ar), .d (Zae cs)])]) (λ k=>ls.length-k) 0 ?_ ?_ ?_
 ·exact⟨uJ _,λ j y h=>by omega⟩
 ·exact kN kc0 []
 ·rintro k ⟨hk,hinv⟩;rcases uF k ls.length with hlt|hge
  ·obtain⟨p,hp⟩:=Zad hlt;have hix:=ZjA p v;have hpi:=ZpW p v;by_cases h0:0<=placeF p v
   ·rw[yM h0]at hpi;have hf:ls.findIdx? (λ y=>y.any λ x=>decide (x=v))=some k:=Zer hp hpi.symm hinv;refine kw1 kO (kc1 hp) (kc1 hix) ?_;refine⟨_,rfl,Zah ?_,Zah ?_,trivial⟩
    ·dsimp only[ZaN];rw[hf];rfl
    ·dsimp only[Zl7];rw[hf];dsimp only;rw[hp];rfl
   ·rw[yC h0]at hpi;refine kw1 kO (kc1 hp) (kc1 hix) ?_;refine⟨k+1,?_,kN kc0 [],?_⟩
    ·exact⟨by omega,ZbI hinv hp hpi.symm⟩
    ·omega
  ·have hf:ls.findIdx? (λ y=>y.any λ x=>decide (x=v))=none:=ZeS λ j y hy=>hinv j y (by have:=(uB.1 hy).1;omega) hy
   refine kw1 kO kc0 kc0 ?_;refine⟨_,rfl,Zah ?_,Zah ?_,trivial⟩
   ·dsimp only[ZaN];rw[hf];rfl
   ·dsimp only[Zl7];rw[hf]
def ZcA (a:Lv):Lv:=(a.1,a.2.1.map ZaF,a.2.2.1,a.2.2.2)
theorem ZyM (a:Lv)(hn:a.2.1.length<=1000)(hl:∀y,y∈a.2.1->y.length*8<=140737488351232):Zaa Tryz.prog 108 [lvD a] (lvD (ZcA a)):=by
 obtain⟨n,ls,ar,cs⟩:=a;dsimp only at hn hl;refine kE Tryz.func108 ?_;intro hat B X w0;refine kw1 kO kc0 kc0 ?_;refine Zau _ (Zof 9 ls.length rfl) ?_;refine Zai (λ(k:Nat)=>k<=ls.length) (λ k=>[(1, .ptr 1 0 0 0),(2, .ptr 2 0 0 0),(3, .ref 9 1 0 ls.length ls.length),(11, .d (Zae ls)),(12, .int ls.length),(13, .int k)]) (λ k=>[(1, .cells [.int n, .d (Zae ls), .d (Zak ar), .d (Zae cs)]),(2, .cells [.int 0, .nilS, .nilS, .nilS]),(9, .row 1 (((ls.map ZaF).take k).map Zac++List.replicate (ls.length-k) (.sl [])))]) (λ k=>ls.length-k) 0 ?_ ?_ ?_
 ·exact uJ _
 ·exact kN (kc4 @yY.{0} @yT.{0,0} @gF.{0} @kY) []
 ·intro k hk;rcases uF k ls.length with hlt|hge
  ·obtain⟨p,hp⟩:=Zad hlt;have hpl:=hl p (uA hp);have hv:=Zkx p;have hs:=Zkw p (by omega);have hm:(ls.map ZaF)[k]? =some (ZaF p):=by rw[uI,hp];rfl
   have hst:(((ls.map ZaF).take k).map Zac++List.replicate (ls.length-k) (D.sl [])).set k (Zac (ZaF p))=((ls.map ZaF).take (k+1)).map Zac++List.replicate (ls.length-(k+1)) (D.sl []):=by
    have hlk:(((ls.map ZaF).take k).map Zac).length=k:=by rw[uE,uS,uE];omega
    have e:ls.length-k=(ls.length-(k+1))+1:=by omega
    rw[Bo,hlk,if_neg (by omega),gZ,e,kU,jV,ZaD hm,yB,yP];rfl
   have hLn:(((ls.map ZaF).take k).map Zac++List.replicate (ls.length-k) (D.sl [])).length=ls.length:=by
    rw[uC,uE,uS,uE,qV];omega
   have hgk:(((ls.map ZaF).take k).map Zac++List.replicate (ls.length-k) (D.sl []))[k]? =some (D.sl []):=by
    rw[yZ (by rw[uE,uS,uE];omega),uE,uS,uE,jA (by omega),gZ,gI,if_pos (by omega)]
   refine kw1 kO (kc3 hp hLn hgk) (kc2 hv hs) ?_;refine⟨k+1,?_,kN (kc1 hst) [],?_⟩
   ·omega
   ·omega
  ·have:k=ls.length:=by omega
   subst this;have htl:((ls.map ZaF).take ls.length)=ls.map ZaF:=uD (by rw[uE];exact uH _)
   try dsimp only
   rw[htl,gZ];refine kw1 kO kc0 kc0 ?_;refine⟨_,_,_,_,rfl,?_⟩;simp(disch:=omega) only[go_sem,simprocAttr,toD,Br,yO,uE,uD];rw[uD (by rw[uE,uE];exact uH _)];rfl
def Zce (o:List Int)(x:Int):Nat->Nat
 |0=>0
 |k+1=>if x<at0 o k then Zce o x k else k+1
theorem Zk6 (o:List Int)(x:Int):∀k,Zce o x k<=k
 |0=>uH _
 |k+1=>by rw[Zce];have:=Zk6 o x k;split<;>omega
def Zd9 (o:List Int)(x:Int):List Int:=o.take (Zce o x o.length)++[x]++o.drop (Zce o x o.length)
theorem Zuy (o:List Int)(x:Int):(Zd9 o x).length=o.length+1:=by
 have:=Zk6 o x o.length;simp only[Zd9,uC,uS,qP,uV,uY];omega
def Zc4 (l:List Int):Nat->List Int
 |0=>[]
 |k+1=>Zd9 (Zc4 l k) (at0 l k)
theorem ZoM (l:List Int):∀k,(Zc4 l k).length=k
 |0=>rfl
 |k+1=>by rw[Zc4,Zuy,ZoM l k]
theorem ZvX (r:List Int)(k:Nat):∀d,d∈(List.map D.int r).take k->d.cells.length=1:=λ d hd=>ZfY r d (qR hd)
theorem ZvV (r:List Int)(k:Nat):∀d,d∈(List.map D.int r).drop k->d.cells.length=1:=λ d hd=>ZfY r d (gS hd)
theorem ZvW (r:List Int)(k j:Nat):∀d,d∈((List.map D.int r).drop k).take j->d.cells.length=1:=λ d hd=>ZfY r d (gS (qR hd))
theorem ZwP (l:List Int)(hl:l.length<=1000):Zaa Tryz.prog 114 [Zac l] (Zac (Zc4 l l.length)):=by
 refine kE Tryz.func114 ?_;intro hat B X w0;refine kw1 kO kc0 kc0 ?_;refine Zau _ (Zd5 3 900 1 rfl rfl) ?_;refine Zai (λ(i:Nat)=>i<=l.length) (λ i=>[(0, .d (Zac l)),(3, .ref 900 1 0 i i),(4, .int i)]) (λ i=>[(900, .row 1 ((Zc4 l i).map D.int))]) (λ i=>l.length-i) 0 ?_ ?_ ?_
 ·exact uJ _
 ·exact kN (kc2 @Zc4.eq_1 @yT.{0,0}) []
 ·intro i hi;have hil:=ZoM l i;rcases uF i l.length with hlt|hge
  ·have gi:=ZaS hlt;have his:Zc4 l (i+1)=Zd9 (Zc4 l i) (at0 l i):=rfl;generalize at0 l i=x at gi his;generalize hO:Zc4 l i=O at hil his|-;refine kw1 kO kc0 kc0 ?_;refine Zai (λ(k:Nat)=>k<=i/\Zce O x k=Zce O x i) (λ k=>[(0, .d (Zac l)),(3, .ref 900 1 0 i i),(4, .int i),(5, .int k)]) (λ k=>[(900, .row 1 (O.map D.int))]) (λ k=>k) i ?_ ?_ ?_
   ·exact⟨uH _,rfl⟩
   ·exact kN kc0 []
   ·rintro k ⟨hk,hinv⟩;rcases qT k with h0|h0
    ·subst h0;have en:((0:Nat):Int).toNat=0:=rfl;have hmn:min 0 i=0:=by omega
     have htO:List.take i (List.map D.int O)=List.map D.int O:=uD (by rw[uE];omega);have htl:(List.map D.int O).length=i:=by rw[uE,hil]
     refine kw1 (kow (Nat.beq 31) (b:=true)) (kc8 gi en hk hil @qS.{0} @gF.{0} @kY (kc5 @List.take_take.{0} @Nat.min_self hmn htO htl)) kc0 ?_;have hins:Zd9 O x=x::O:=by rw[Zd9,hil,<-hinv];simp[Zce]
     refine⟨i+1,?_,kN (kc3 his hins @uX.{0,0}) [(900,47)],?_⟩
     ·omega
     ·omega
    ·obtain⟨k,rfl⟩:∃m,k=m+1:=⟨k-1,by omega⟩;have gk:=ZaS (r:=O) (i:=k) (by omega);have ek:(((k+1:Nat):Int)-1).toNat=k:=by omega
     have en:(((k+1:Nat):Int)).toNat=k+1:=by omega
     have hmn:min (k+1) i=k+1:=by omega
     have htl:(List.take (k+1) (List.map D.int O)).length=k+1:=by rw[uS,uE];omega
     have htO:List.take (i-(k+1)) (List.drop (k+1) (List.map D.int O))=List.drop (k+1) (List.map D.int O):=uD (by rw[qP,uE];omega);have htd:(List.drop (k+1) (List.map D.int O)).length=i-(k+1):=by rw[qP,uE];omega
     have hif:k+1+(i-(k+1))=i:=by omega
     have ht2:List.take (k+1+1) (List.take (k+1) (List.map D.int O)++[D.sc (Value.int IntKind.i64 x)])=List.take (k+1) (List.map D.int O)++[D.int x]:=uD (by rw[uC,htl];exact uH _);rw[Zce]at hinv;by_cases hx:x<at0 O k
     ·rw[if_pos hx]at hinv;refine kw1 kO (kc3 gi gk ek) kc0 ?_;refine⟨k,?_,kN (kc3 @qI @gP @Cb) [],?_⟩
      ·exact⟨by omega,hinv⟩
      ·omega
     ·rw[if_neg hx]at hinv
      repeat' first|refine ZbD rfl ?_|refine Za1 ?_|refine Zf0 (Nat.beq 31) ZcC ?_|(refine ZbF rfl rfl (λ hc=>?_) (λ hc=>?_)<;>try simp only[hcL]at hc)|(refine ZbC _ rfl rfl (λ hc=>?_) (λ hc=>?_)<;>(try simp only[hcL]at hc)<;>try omega)|simp(disch:=omega) only[go_sem,simprocAttr,gi,gk,ek,en,roomy,hk,hil,qS,gF,kY,List.take_take,Nat.min_self,hmn,htO,htl,htd,hif,uH,uC,uV,uY,qO]|(first|exact ZfY _|exact ZvX _ _|exact ZvV _ _|exact ZvW _ _ _)|apply And.intro|omega|decide+kernel
      have hins:Zd9 O x=O.take (k+1)++[x]++O.drop (k+1):=by rw[Zd9,hil,<-hinv]
      refine⟨i+1,?_,eL [(900,47)] _ _ (by refine⟨?_,?_⟩<;>(repeat' first|exact fmn|refine fmc ⟨(by first|rfl|(simp(disch:=omega) only[go_sem,simprocAttr,inL,his,hins,ht2,yB,Ac,List.map_drop];first|done|omega|(congr 1;done))),?_⟩);done),?_⟩
      ·omega
      ·omega
  ·have:i=l.length:=by omega
   subst this;refine kw1 kO kc0 kc0 ?_;exact Zda (o:=900) rfl rfl (by simp[hil]) (uD (by simp[hil]))
theorem Zn8 (o:List Int)(x:Int):∀(k j:Nat),Zce o x k<=j->j<k->x<at0 o j
 |0,j,_,h=>by omega
 |k+1,j,h1,h2=>by
  rw[Zce]at h1;split at h1
  ·rename_i hx;rcases uF j k with h|h
   ·exact Zn8 o x k j h1 h
   ·rw[show j=k by omega];exact hx
  ·omega
theorem Zn9 (o:List Int)(x:Int):∀(k p:Nat),Zce o x k=p+1->at0 o p<=x
 |0,p,h=>by rw[Zce]at h;omega
 |k+1,p,h=>by
  rw[Zce]at h;split at h
  ·exact Zn9 o x k p h
  ·rename_i hx;rw[show p=k by omega];omega
theorem Zuz (o:List Int)(x:Int):(Zd9 o x).Perm (x::o):=by
 rw[Zd9,yP,List.singleton_append];refine zC.trans ?_;rw[yU]
theorem ZuA {o:List Int}(h:o.Pairwise (·<=·))(x:Int):(Zd9 o x).Pairwise (·<=·):=by
 have hlo:∀a,a∈o.take (Zce o x o.length)->a<=x:=by
  intro a ha;obtain⟨j,hj⟩:=jR.1 ha;rw[qC]at hj;split at hj
  ·rename_i hjp;obtain⟨p,hp⟩:∃p,Zce o x o.length=p+1:=⟨Zce o x o.length-1,by omega⟩;have h1:=Zn9 o x o.length p hp;have h2:=Zk6 o x o.length;have h3:=ZaS (r:=o) (i:=p) (by omega);rcases uF j p with hl|hl
   ·have h4:=(uB.1 hj);obtain⟨h5,h6⟩:=h4;obtain⟨h7,h8⟩:=uB.1 h3;have:=jO.1 h j p h5 h7 hl;rw[h6,h8]at this;exact Ak this h1
   ·have:j=p:=by omega
    subst this;rw[h3]at hj;cases hj;exact h1
  ·cases hj
 have hhi:∀a,a∈o.drop (Zce o x o.length)->x<=a:=by
  intro a ha;obtain⟨j,hj⟩:=jR.1 ha;rw[qZ]at hj;have hlt:Zce o x o.length+j<o.length:=(uB.1 hj).1;have h1:=Zn8 o x o.length (Zce o x o.length+j) (by omega) hlt;rw[ZaS hlt]at hj;cases hj;omega
 rw[Zd9];refine yX.2 ⟨yX.2 ⟨h.sublist (jK _ _),jY _ _,λ a ha b hb=>?_⟩,h.sublist (kT _ _),λ a ha b hb=>?_⟩
 ·rw[uR.1 hb];exact hlo a ha
 ·rcases yN.1 ha with ha|ha
  ·exact Ak (hlo a ha) (hhi b hb)
  ·rw[uR.1 ha];exact hhi b hb
theorem ZoN (l:List Int):∀k,k<=l.length->(Zc4 l k).Perm (l.take k)
 |0,_=>by simp[Zc4]
 |k+1,h=>by
  rw[Zc4,ZaD (ZaS (r:=l) (i:=k) (by omega))];exact(Zuz _ _).trans (((ZoN l k (by omega)).cons _).trans (List.perm_append_singleton _ _).symm)
theorem ZoO (l:List Int):∀k,(Zc4 l k).Pairwise (·<=·)
 |0=>List.Pairwise.nil
 |k+1=>by rw[Zc4];exact ZuA (ZoO l k) _
theorem Zmp (l:List Int):(ZaF l).Pairwise (·<=·):=by
 have h:=List.pairwise_mergeSort (le:=λ x y:Int=>decide (x<=y)) (by intro a b c h1 h2;simp only[uG]at*;omega) (by intro a b;simp only[qY,uG];omega) l;exact h.imp λ h=>by simpa using h
theorem ZhG (l:List Int):(ZaF l).Perm l:=List.mergeSort_perm _ _
theorem ZuB (l:List Int):Zc4 l l.length=ZaF l:=by
 refine Ao (le:=(·<=·)) (λ a b _ _ h1 h2=>Int.le_antisymm h1 h2) (ZoO l _) (Zmp l) ?_;have:=ZoN l l.length (uH _);rw[yI]at this;exact this.trans (ZhG l).symm
theorem ZwO (l:List Int)(hl:l.length<=1000):Zaa Tryz.prog 114 [Zac l] (Zac (ZaF l)):=ZuB l▸ZwP l hl
theorem Zwp (a:Lv)(hn:a.2.1.length<=1000)(hl:∀y,y∈a.2.1->y.length<=1000):Zaa Tryz.prog 56 [lvD a] (lvD (ZcA a)):=by
 obtain⟨n,ls,ar,cs⟩:=a;dsimp only at hn hl;refine kE Tryz.func56 ?_;intro hat B X w0;refine kw1 kO kc0 kc0 ?_;refine Zau _ (Zcr 3 1 901 1 rfl rfl rfl) ?_;refine Zai (λ(k:Nat)=>k<=ls.length) (λ k=>[(1, .ptr 1 0 0 0),(2, .ptr 2 0 0 0),(3, .ptr 3 0 0 0),(4, .int k)]) (λ k=>[(1, .cells [.int n, .d (Zae ls), .d (Zak ar), .d (Zae cs)]),(2, .cells [.int 0, .nilS, .nilS, .nilS]),(3, .cells [.int n, .ref 901 1 0 k k, .d (Zak ar), .d (Zae cs)]),(901, .row 1 (((ls.map ZaF).take k).map Zac))]) (λ k=>ls.length-k) 0 ?_ ?_ ?_
 ·exact uJ _
 ·exact kN (kc2 @yY.{0} @yT.{0,0}) []
 ·intro k hk;rcases uF k ls.length with hlt|hge
  ·obtain⟨p,hp⟩:=Zad hlt;have hpl:=hl p (uA hp);have hs:=ZwO p hpl;have hm:(ls.map ZaF)[k]? =some (ZaF p):=by rw[uI,hp];rfl
   have hts:=ZaD hm;have hlk:(((ls.map ZaF).take k).map Zac).length=k:=by rw[uE,uS,uE];omega
   have htk:List.take k (((ls.map ZaF).take k).map Zac)=((ls.map ZaF).take k).map Zac:=uD (by rw[hlk];exact uH _);refine kw1 kO (kc2 hp hlk) (kc1 hs) ?_;refine⟨k+1,?_,kN (kc3 hts @yB.{0,0} htk) [(901,28)],?_⟩
   ·omega
   ·omega
  ·have:k=ls.length:=by omega
   subst this;have htl:((ls.map ZaF).take ls.length)=ls.map ZaF:=uD (by rw[uE];exact uH _)
   try dsimp only
   rw[htl];refine kw1 kO kc0 kc0 ?_;refine⟨_,_,_,_,rfl,?_⟩;simp(disch:=omega) only[go_sem,simprocAttr,toD,uE];rw[uD (by rw[uE,uE];exact uH _)];rfl
theorem Zim (a b:Int):(if b<a then b else a)=min a b:=by omega
def Za7 (g:Nat->Int)(n k:Nat):List Int:=(List.range n).map λ u=>if u<k then g u else 0
theorem Zdl (g:Nat->Int)(n k:Nat):(Za7 g n k).length=n:=by simp[Za7]
theorem ZeR {g:Nat->Int}{n k u:Nat}(h:u<n):(Za7 g n k)[u]? =some (if u<k then g u else 0):=by simp[Za7,h]
theorem Zic (g:Nat->Int)(n:Nat):(Za7 g n 0).map D.int=List.replicate n (D.int 0):=by
 rw[zJ];refine⟨by simp[Za7],λ b hb=>?_⟩;simp only[Za7,gN,uN]at hb;obtain⟨u,_,rfl⟩:=hb;simp
theorem Zib {g:Nat->Int}{n k:Nat}(h:k<n):(Za7 g n k).set k (g k)=Za7 g n (k+1):=by
 refine qL λ u=>?_
 by_cases hu:u<n
 ·rw[ZeR hu,qD,ZeR hu,Zdl];by_cases c:k=u
  ·subst c;rw[if_pos rfl,if_pos h,if_pos (by omega)]
  ·rw[if_neg c];by_cases c2:u<k
   ·rw[if_pos c2,if_pos (by omega)]
   ·rw[if_neg c2,if_neg (by omega)]
 ·rw[uP (by rw[yL,Zdl];omega),uP (by rw[Zdl];omega)]
theorem Zia (g:Nat->Int)(n:Nat):Za7 g n n=(List.range n).map g:=by
 rw[Za7];refine yE λ u hu=>?_
 rw[if_pos (yD.1 hu)]
theorem Zno {ds cs:List D}{l:List D}{m:List D}{k:Nat}(i j:Nat)(h:∃w X vs,Zgq w X ds vs)(hi:ds[i]? =some (.ag cs))(hj:cs[j]? =some (.sl l))(hk:l[k]? =some (.sl m)):m.length<=9223372036854775807:=by
 obtain⟨w,X,vs,h1,h2⟩:=h;have hlt:i<vs.size:=by have:=(uB.1 hi).1;omega
 have:=h2 i _ _ hi (uT hlt);generalize vs[i]=v at this;cases this with
 |ag _ arr hsz hone hat=>
  have hlt:j<arr.size:=by have:=(uB.1 hj).1;omega
  have:=hat j _ _ hj (uT hlt);generalize arr[j]=v at this;cases this with
  |slnil=>cases hk
  |sl _ b off cap sz hl hc hsz vals hv he=>
   have:=he k _ 0 _ hk rfl;generalize vals k 0=v at this;cases this with
   |slnil=>simp
   |sl _ b off cap sz hl hc=>simp only[maxLen]at hc;omega
def Zb6 (c:List Int):Arc:=(at0 c 0,at0 c ((c.length:Int)-1))
def ZaU (a:Lv):Gr:=(a.1,a.2.2.2.map Zb6)
def Za0 (a:Lv):List Int:=(List.range a.1.toNat).map λ v:Nat=>ZaN a.2.1 v
def ZfQ (a:Lv):Bool:=decide (0<=a.1/\a.1<=64/\a.2.2.2.length<=256/\a.2.1.length<=256)
def Zdv (c:List Int):Bool:=decide (c.length<2)
def ZgM (a:Lv)(v:Nat):Bool:=decide (ZaN a.2.1 v<0)
def Zfh (a:Lv):Bool:= !(List.range a.1.toNat).any (ZgM a)
def Zay (a:Lv):Bool:=ZfQ a&& !a.2.2.2.any Zdv&&Zfh a&&decide ((ZaH (ZaU a) (Za0 a)).2=0)&&Zey (ZcA a) (ZaH (ZaU a) (Za0 a)).1
def wide (a:Lv):Prop:=∀y,y∈a.2.1->y.length*8<=140737488351232
theorem Zgt (a:Lv)(hw:wide a):Zaa Tryz.prog 51 [lvD a] (.bool (Zay a)):=by
 have hfd:=Zjw a;have hbd:=Zm0 (ZaU a) (Za0 a);have hsd:=ZyM a;have hsm:=ZrO (ZcA a) (ZaH (ZaU a) (Za0 a)).1;obtain⟨m,ls,ar,cs⟩:=a;refine kE Tryz.func51 ?_;intro hat B X w0;have h1:=Zb3 0 1 hat rfl rfl;have h2:=Zb3 0 2 hat rfl rfl;have h3:=Zb3 0 3 hat rfl rfl;rw[uE]at h1 h2 h3;dsimp only at h1 h2 h3;refine kw kO kc0 kc0 ?_
 repeat' first|exact True.intro|refine Bn.mk ?_ ?_|intro hc
 all_goals try (refine Zaj ?_;simp[Zay,ZfQ];omega)
 obtain⟨n,rfl⟩:∃n:Nat,m=n:=⟨m.toNat,by omega⟩;have hhd:ZfQ ((n:Int),ls,ar,cs)=true:=by simp[ZfQ];omega
 have hn64:n<=64:=by omega
 have hc256:cs.length<=256:=by omega
 have hl256:ls.length<=256:=by omega
 refine Zau _ (Zcr 3 1 901 2 rfl rfl rfl) ?_;refine Zai (λ(k:Nat)=>k<=cs.length/\∀(j:Nat) y,j<k->cs[j]? =some y->Zdv y=false) (λ k=>[(1, .ptr 1 0 0 0),(3, .ptr 3 0 0 0),(34, .d (Zae cs)),(35, .int cs.length),(36, .int k)]) (λ k=>[(1, .cells [.int n, .d (Zae ls), .d (Zak ar), .d (Zae cs)]),(3, .cells [.int n, .ref 901 2 0 k k]),(901, .row 2 (((cs.take k).map Zb6).map ZaY))]) (λ k=>cs.length-k) 0 ?_ ?_ ?_
 ·exact⟨uJ _,λ j y h=>by omega⟩
 ·exact kN (kc2 @yY.{0} @yT.{0,0}) []
 ·rintro k ⟨hk,hinv⟩;rcases uF k cs.length with hlt|hge
  ·obtain⟨c,hc0⟩:=Zad hlt;by_cases hsc:c.length<2
   ·refine kw1 kO (kc1 hc0) kc0 ?_;refine Zaj ?_;have:cs.any Zdv=true:=ZcZ hc0 (by simpa[Zdv]using hsc);simp[Zay,this]
   ·have hcl:c.length<=9223372036854775807:=by have:=Zno (m:=c.map D.int) (k:=k) 0 3 hat rfl rfl (by rw[uI,hc0];rfl);rwa [uE]at this
    have e1:=ZaS (r:=c) (i:=0) (by omega);have e2:=Zen (r:=c) (v:=(c.length:Int)-1) (by omega) (by omega);have hts:=ZaD hc0;have hlk:(((cs.take k).map Zb6).map ZaY).length=k:=by rw[uE,uE,uS];omega
    have htk:List.take k (((cs.take k).map Zb6).map ZaY)=((cs.take k).map Zb6).map ZaY:=uD (by rw[hlk];exact uH _);refine kw1 kO (kc4 hc0 e1 e2 hlk) kc0 ?_;refine⟨k+1,?_,kN (kc3 hts @yB.{0,0} htk) [(901,56)],?_⟩
    ·exact⟨by omega,ZbI hinv hc0 (by simpa[Zdv]using hsc)⟩
    ·omega
  ·have:k=cs.length:=by omega
   subst this;have hsc:cs.any Zdv=false:=ZdB λ j y hj=>hinv j y hj
   try dsimp only
   rw[yI];refine kw1 (kow (Nat.beq 61) (b:=false)) kc0 kc0 ?_;refine Zai (λ(v:Nat)=>v<=n/\∀u,u<v->ZgM (n,ls,ar,cs) u=false) (λ v=>[(1, .ptr 1 0 0 0),(3, .ptr 3 0 0 0),(6, .ref 61 1 0 n n),(63, .int n),(64, .int v)]) (λ v=>[(1, .cells [.int n, .d (Zae ls), .d (Zak ar), .d (Zae cs)]),(3, .cells [.int n, .ref 901 2 0 cs.length cs.length]),(901, .row 2 ((cs.map Zb6).map ZaY)),(61, .row 1 ((Za7 (λ u=>ZaN ls u) n v).map D.int))]) (λ v=>n-v) 0 ?_ ?_ ?_
   ·exact⟨uJ _,λ u h=>by omega⟩
   ·exact kN (kc1 @Zic) []
   ·rintro v ⟨hv,hinv2⟩;have hfl:=Zdl (λ u=>ZaN ls u) n v;rcases uF v n with hlt|hge
    ·have hg:=ZeR (g:=λ u=>ZaN ls u) (k:=v) hlt;have hst:=Zib (g:=λ u=>ZaN ls u) hlt;have hsm:(List.map D.int (Za7 (λ u=>ZaN ls u) n v)).set v (D.sc (Value.int IntKind.i64 (ZaN ls v)))=List.map D.int (Za7 (λ u=>ZaN ls u) n (v+1)):=by rw[<-hst,yR]
     have hfl2:=Zdl (λ u=>ZaN ls u) n (v+1);have hg2:=ZeR (g:=λ u=>ZaN ls u) (k:=v+1) hlt;rw[if_pos (by omega)]at hg2;have hf:=hfd v;dsimp only at hf;by_cases hn:ZaN ls v<0
     ·have hfo:Zfh ((n:Int),ls,ar,cs)=false:=by
       rw[Zfh,Ar,gO];exact⟨v,by simpa using hlt,by simpa[ZgM]using hn⟩
      refine kw1 kO (kc5 hg hsm hg2 hfl hfl2) (kc1 hf) ?_;refine Zaj ?_;simp[Zay,hfo]
     ·refine kw1 kO (kc5 hg hsm hg2 hfl hfl2) (kc1 hf) ?_;refine⟨v+1,?_,kN (kc1 hsm) [],?_⟩
      ·refine⟨by omega,λ u hu=>?_⟩;rcases gA.1 hu with h|rfl
       ·exact hinv2 u h
       ·simpa[ZgM]using hn
      ·omega
    ·have:v=n:=by omega
     subst this;have hfo:Zfh ((v:Int),ls,ar,cs)=true:=by
      rw[Zfh,yK,qU];intro u hu;rw[hinv2 u (by simpa using hu)]
      decide
     have hre:Za7 (λ u=>ZaN ls u) v v=Za0 ((v:Int),ls,ar,cs):=by rw[Zia,Za0];rfl
     have hsg:ZaU ((v:Int),ls,ar,cs)=((v:Int),cs.map Zb6):=rfl
     try dsimp only
     rw[hre];rw[hsg]at hbd hsm;have hvf:Zay ((v:Int),ls,ar,cs)=(decide ((ZaH ((v:Int),cs.map Zb6) (Za0 ((v:Int),ls,ar,cs))).2=0)&&Zey (ZcA ((v:Int),ls,ar,cs)) (ZaH ((v:Int),cs.map Zb6) (Za0 ((v:Int),ls,ar,cs))).1):=by rw[Zay,hhd,hsc,hfo,hsg];simp
     rw[hvf];have hrl:(Za0 ((v:Int),ls,ar,cs)).length=v:=by simp[Za0]
     generalize Za0 ((v:Int),ls,ar,cs)=R at*;generalize ZaH ((v:Int),cs.map Zb6) R=BF at*;obtain⟨b,e⟩:=BF;have hsd1:=hsd (by simpa using(show ls.length<=1000 by omega)) hw;generalize ZcA ((v:Int),ls,ar,cs)=S at*;dsimp only at hbd hsm|-;have htA:((cs.map Zb6).map ZaY).take cs.length=(cs.map Zb6).map ZaY:=uD (by simp);have htR:(R.map D.int).take v=R.map D.int:=uD (by simp[hrl]);have hlA:((cs.map Zb6).map ZaY).length=cs.length:=by simp
     have hlR:(R.map D.int).length=v:=by simp[hrl]
     refine Zau _ (Zc2 901 2 ((cs.map Zb6).map ZaY) rfl (ZcP _ rfl) (by decide)) ?_;refine kR (kc4 @qS.{0} htA hlA @uH) [] [(1, .ptr 1 0 0 0),(3, .ptr 3 0 0 0),(6, .ref 61 1 0 v v),(63, .int v),(64, .int v)] [(1, .cells [.int v, .d (Zae ls), .d (Zak ar), .d (Zae cs)]),(3, .cells [.int v, .d (Zak (cs.map Zb6))]),(61, .row 1 (R.map D.int))] ?_;refine Zau _ (Zc2 61 1 (R.map D.int) rfl (ZcP _ rfl) (by decide)) ?_;by_cases he:e=0
     ·subst he;rcases hsv:Zey S b with _|_<;>rw[hsv]at hsm
      all_goals
       refine kw1 kO (kc3 htR hlR @qS.{0}) (kc3 hbd hsd1 hsm) ?_;refine Zaj ?_;simp[hsv]
     ·refine kw1 kO (kc4 he htR hlR @qS.{0}) (kc3 hbd hsd1 hsm) ?_;refine Zaj ?_;simp[he]
def tot :List (List Int)->Nat
 |[]=>0
 |y::l=>y.length+tot l
theorem Zrc (l m:List (List Int)):tot (l++m)=tot l+tot m:=by
 induction l with
 |nil=>simp[tot]
 |cons y l ih=>simp only[jM,tot,ih];omega
theorem Zrd {l:List (List Int)}{k:Nat}{y:List Int}(h:l[k]? =some y):tot (l.take (k+1))=tot (l.take k)+y.length:=by
 rw[ZaD h,Zrc];simp[tot]
theorem Zre (l:List (List Int))(k:Nat):tot (l.take k)<=tot l:=by
 conv=>rhs;rw[<-yU k l]
 rw[Zrc];omega
theorem Zkk (l:List (List Int)):l.flatten.length=tot l:=by
 induction l with
 |nil=>rfl
 |cons y l ih=>simp only[kB,uC,tot,ih]
theorem ZcV {l:List (List Int)}{y:List Int}(h:y∈l):y.length<=tot l:=by
 induction l with
 |nil=>cases h
 |cons x l ih=>
  rw[tot];rcases yH.1 h with rfl|h
  ·omega
  ·have:=ih h;omega
def Zct (c:Nat)(ls:List (List Int)):Bool:=ls.flatten.all (λ v=>decide (0<=v/\v<c))&&decide ls.flatten.Nodup
def ZbZ (c:Nat)(ls:List (List Int)):List Int:=(List.range c).map λ v:Nat=>ZaN ls v
def Zb7 (ls:List (List Int)):Option (List Int):=if 256<ls.length\/512<tot ls then none else if Zct (tot ls) ls then some (ZbZ (tot ls) ls)else none
theorem Zex (c:Nat)(ls:List (List Int)):(ZbZ c ls).length=c:=by simp[ZbZ]
theorem ZiO {c v:Nat}(h:v<c)(ls:List (List Int)):(ZbZ c ls)[v]? =some (ZaN ls v):=by simp[ZbZ,h]
theorem Zfl {ls:List (List Int)}{v:Int}:0<=ZaN ls v↔v∈ls.flatten:=by
 have h:=ZgI (λ y:List Int=>y.any λ x=>decide (x=v)) ls;have:decide (0<=ZaN ls v)=true↔v∈ls.flatten:=by
  rw[ZaN,h,gO,Al];constructor
  ·rintro⟨y,h1,h2⟩;obtain⟨x,h3,h4⟩:=gO.1 h2;have:x=v:=by simpa using h4
   exact⟨y,h1,this▸h3⟩
  ·rintro⟨y,h1,h2⟩;exact⟨y,h1,gO.2 ⟨v,h2,by simp⟩⟩
 simpa using this
theorem ZlA {ls:List (List Int)}{v:Int}(h:v∉ls.flatten):ZaN ls v=-1:=by
 have h2:¬0<=ZaN ls v:=λ h1=>h (Zfl.1 h1)
 unfold ZaN at h2|-;unfold ZcD at h2|-;split
 ·rename_i i hi;rw[hi]at h2;dsimp only at h2;omega
 ·rfl
theorem Zo2 (ls:List (List Int))(y:List Int)(v:Int):ZaN (ls++[y]) v=if v∈ls.flatten then ZaN ls v else if v∈y then(ls.length:Int)else -1:=by
 by_cases h1:v∈ls.flatten
 ·rw[if_pos h1];have h2:=Zfl.2 h1;unfold ZaN at h2|-;rw[List.findIdx?_append];cases hf:ls.findIdx? (λ y=>y.any λ x=>decide (x=v))with
  |none=>rw[hf]at h2;exact absurd h2 (by decide)
  |some i=>rfl
 ·rw[if_neg h1];have h2:=ZlA h1;by_cases h3:v∈y
  ·rw[if_pos h3];unfold ZaN at h2|-;rw[List.findIdx?_append];cases hf:ls.findIdx? (λ y=>y.any λ x=>decide (x=v))with
   |some i=>rw[hf]at h2;simp only[ZcD]at h2;omega
   |none=>
    have:(y.any λ x=>decide (x=v))=true:=gO.2 ⟨v,h3,by simp⟩;rw[jF,if_pos this];simp[ZcD]
  ·rw[if_neg h3];refine ZlA ?_;rw[zR,yN];rintro(h|h)
   ·exact h1 h
   ·exact h3 (by simpa using h)
def pre (ls:List (List Int))(i k:Nat):List (List Int):=ls.take i++[((ls[i]?).getD []).take k]
theorem Zt1 (ls:List (List Int)){i k:Nat}{y:List Int}(h:ls[i]? =some y):ls.flatten=(pre ls i k).flatten++(y.drop k++(ls.drop (i+1)).flatten):=by
 have hd:ls.drop i=y::ls.drop (i+1):=by
  obtain⟨hi,he⟩:=uB.1 h;rw[<-he];exact gL hi
 conv=>lhs;rw[<-yU i ls,hd,zR,kB]
 rw[pre,h,zR];simp only[yQ,kB,Bg,yO]
 conv=>lhs;rw[<-yU k y]
 simp only[yP]
theorem Zt2 (ls:List (List Int)){i k:Nat}{y:List Int}{v:Int}(h:ls[i]? =some y)(hv:y[k]? =some v):(pre ls i (k+1)).flatten=(pre ls i k).flatten++[v]:=by
 simp only[pre,h,yQ,zR,kB,Bg,yO,ZaD hv,yP]
theorem Zxr {c:Nat}(ls:List (List Int)){i k:Nat}{y:List Int}{v:Int}(h:ls[i]? =some y)(hv:y[k]? =some v)(h0:0<=v)(h1:ZaN (pre ls i k) v<0):
  (ZbZ c (pre ls i k)).set v.toNat (i:Int)=ZbZ c (pre ls i (k+1)):=by
 have hi:(ls.take i).length=i:=by rw[uS];have:=(uB.1 h).1;omega
 refine qL λ u=>?_
 by_cases hu:u<c
 ·rw[ZiO hu,qD,ZiO hu,Zex];simp only[pre,h,yQ,Zo2,ZaD hv,hi,yN,uR]at h1|-;by_cases e:v.toNat=u
  ·subst e;have ev:((v.toNat:Nat):Int)=v:=by omega
   rw[if_pos rfl,if_pos hu,ev];split at h1
   ·rename_i hm;have:=Zfl.2 hm;omega
   ·rename_i hm;rw[if_neg hm,if_pos (.inr rfl)]
  ·rw[if_neg e];have:¬(u:Int)=v:=by omega
   simp[this]
 ·rw[uP (by rw[yL,Zex];omega),uP (by rw[Zex];omega)]
theorem ZuS (ls:List (List Int))(i:Nat)(v:Int):ZaN (pre ls i 0) v=ZaN (ls.take i) v:=by
 rw[pre,Zo2];by_cases h:v∈(ls.take i).flatten
 ·rw[if_pos h]
 ·rw[if_neg h,yY,if_neg kI,ZlA h]
theorem Zxq (c:Nat)(ls:List (List Int))(i:Nat):ZbZ c (pre ls i 0)=ZbZ c (ls.take i):=by
 simp only[ZbZ,ZuS]
theorem Zww {ls:List (List Int)}{i:Nat}{y:List Int}(h:ls[i]? =some y):pre ls i y.length=ls.take (i+1):=by
 rw[pre,h,yQ,yI,ZaD h]
theorem Zuh {c:Nat}{ls:List (List Int)}{i:Nat}:Zct c (pre ls i 0)=Zct c (ls.take i):=by
 simp[Zct,pre]
theorem ZfP {c:Nat}{ls:List (List Int)}:Zct c ls=true↔(∀v∈ls.flatten,0<=v/\v<c)/\ls.flatten.Nodup:=by
 simp only[Zct,uO,uW,uG]
theorem Zui {c:Nat}{ls:List (List Int)}{i k:Nat}{y:List Int}{v:Int}(h:ls[i]? =some y)(hv:y[k]? =some v)(hg:Zct c (pre ls i k)=true)(h0:0<=v)(h2:v<c)(h1:ZaN (pre ls i k) v<0):
  Zct c (pre ls i (k+1))=true:=by
 rw[ZfP]at hg|-;rw[Zt2 ls h hv];have hn:v∉(pre ls i k).flatten:=λ hm=>by have:=Zfl.2 hm;omega
 refine⟨λ u hu=>?_,gV.2 ⟨hg.2,by simp,λ a ha b hb=>?_⟩⟩
 ·rcases yN.1 hu with hu|hu
  ·exact hg.1 u hu
  ·rw[uR.1 hu];exact⟨h0,h2⟩
 ·rw[uR.1 hb];rintro rfl;exact hn ha
theorem Znt {c:Nat}{ls:List (List Int)}{i k:Nat}{y:List Int}{v:Int}(h:ls[i]? =some y)(hv:y[k]? =some v)(hb:v<0\/(c:Int)<=v\/0<=ZaN (pre ls i k) v):Zct c ls=false:=by
 rw[Ax];intro hg;rw[ZfP]at hg;have hd:y.drop k=v::y.drop (k+1):=by
  obtain⟨hi,he⟩:=uB.1 hv;rw[<-he];exact gL hi
 have hf:=Zt1 ls (k:=k) h;rw[hd]at hf;rw[hf]at hg;have hm:=hg.1 v (by simp);rcases hb with hb|hb|hb
 ·omega
 ·omega
 ·exact(gV.1 hg.2).2.2 v (Zfl.1 hb) v (by simp) rfl
theorem Zxs (c:Nat):ZbZ c []=List.replicate c (-1):=by
 rw[zJ];refine⟨Zex _ _,λ b hb=>?_⟩;obtain⟨u,_,rfl⟩:=uN.1 hb;rfl
def Zec (c k:Nat):List Int:=List.replicate k (-1)++List.replicate (c-k) 0
theorem Zpv {c k:Nat}(h:k<=c):(Zec c k).length=c:=by simp[Zec];omega
theorem Zvx {c k:Nat}(h:k<c):(Zec c k).set k (-1)=Zec c (k+1):=by
 have e:c-k=(c-(k+1))+1:=by omega
 rw[Zec,e,kU,Bo,qV,if_neg (by omega),gZ,jV,Zec,List.replicate_succ',yP];rfl
theorem Zvw {c k:Nat}(h:k<c):∃x,(Zec c k)[k]? =some x:=Zad (by rw[Zpv (by omega)];exact h)
theorem Zvv (c:Nat):Zec c c=ZbZ c []:=by rw[Zxs,Zec,gZ];simp
theorem Zvy (c:Nat):(Zec c 0).map D.int=List.replicate c (D.int 0):=by simp[Zec]
theorem Zm7 (a:Lv)(hw:wide a):Zaa Tryz.prog 111 [lvD a] (.tup [Zac ((Zb7 a.2.1).getD []), .bool (Zb7 a.2.1).isSome]):=by
 obtain⟨m,ls,ar,cs⟩:=a;have hww:∀y,y∈ls->y.length*8<=140737488351232:=hw;refine kE Tryz.func111 ?_;intro hat B X w0;have h1:=Zb3 0 1 hat rfl rfl;rw[uE]at h1;dsimp only at h1;refine kw1 kO kc0 kc0 ?_;refine Zai (λ(i:Nat)=>i<=ls.length/\i<=257/\tot (ls.take i)<=512+17592186043904) (λ i=>[(1, .ptr 1 0 0 0),(4, .int (tot (ls.take i))),(5, .int i)]) (λ i=>[(1, .cells [.int m, .d (Zae ls), .d (Zak ar), .d (Zae cs)])]) (λ i=>ls.length-i) 0 ?_ ?_ ?_
 ·exact⟨uJ _,by omega,by simp[tot]⟩
 ·exact kN (kc2 @yY.{0} @tot.eq_1) []
 ·rintro i ⟨hi1,hi2,hi3⟩;by_cases hgo:i<ls.length/\i<257/\tot (ls.take i)<=512
  ·obtain⟨g1,g2,g3⟩:=hgo;obtain⟨y,hy⟩:=Zad g1;have hyw:=hww y (uA hy);have hts:=Zrd hy;refine kw1 kO (kc1 hy) kc0 ?_;refine⟨i+1,?_,kN (kc2 hts @qI) [],?_⟩
   ·exact⟨by omega,by omega,by omega⟩
   ·omega
  ·have hout:(256<ls.length\/512<tot (ls.take i))\/(i=ls.length/\ls.length<=256/\tot ls<=512):=by
    by_cases c1:i=ls.length
    ·rw[c1,yI];omega
    ·omega
   rcases hout with hno|⟨rfl,g2,g3⟩
   ·have htl:=Zre ls i;have hrf:Zb7 ls=none:=by rw[Zb7,if_pos (by omega)]
    rw[hrf];have hlt:i<ls.length\/i=ls.length:=by omega
    rcases hlt with hlt|hlt
    all_goals
     by_cases h257:i<257
     all_goals
      refine kw kO kc0 kc0 ?_
      repeat' first|exact True.intro|refine Bn.mk ?_ ?_|intro hc
      all_goals exact⟨_,rfl,rfl,Zaj rfl,trivial⟩
   ·rw[yI];have hrf:Zb7 ls=if Zct (tot ls) ls then some (ZbZ (tot ls) ls)else none:=by rw[Zb7,if_neg (by omega)]
    rw[hrf];generalize hc:tot ls=c at g3|-;refine kw1 (kow (Nat.beq 43) (b:=false)) kc0 kc0 ?_;refine Zai (λ(v:Nat)=>v<=c) (λ v=>[(1, .ptr 1 0 0 0),(4, .int c),(6, .ref 43 1 0 c c),(7, .int v)]) (λ v=>[(1, .cells [.int m, .d (Zae ls), .d (Zak ar), .d (Zae cs)]),(43, .row 1 ((Zec c v).map D.int))]) (λ v=>c-v) 0 ?_ ?_ ?_
    ·exact uJ _
    ·exact kN (kc1 @Zvy) []
    ·intro v hv;have hnl:=Zpv hv;rcases uF v c with hlt|hge
     ·obtain⟨x,hx⟩:=Zvw hlt;have hst:=Zvx hlt;refine kw1 kO (kc2 hx hnl) kc0 ?_;refine⟨v+1,?_,kN (kc2 @hst.symm @yR.{0,0}) [],?_⟩
      ·omega
      ·omega
     ·have:v=c:=by omega
      subst this
      try dsimp only
      rw[Zvv];refine kw1 kO kc0 kc0 ?_;refine Zai (λ(i:Nat)=>i<=ls.length/\Zct v (ls.take i)=true) (λ i=>[(1, .ptr 1 0 0 0),(4, .int v),(6, .ref 43 1 0 v v),(8, .int i)]) (λ i=>[(1, .cells [.int m, .d (Zae ls), .d (Zak ar), .d (Zae cs)]),(43, .row 1 ((ZbZ v (ls.take i)).map D.int))]) (λ i=>ls.length-i) 0 ?_ ?_ ?_
      ·exact⟨uJ _,by simp[Zct]⟩
      ·exact kN (kc1 @yY.{0}) []
      ·rintro i ⟨hi,hgood⟩;rcases uF i ls.length with hlt|hge
       ·obtain⟨y,hy⟩:=Zad hlt;have hyw:=hww y (uA hy);refine kw1 kO (kc1 hy) kc0 ?_;refine Zai (λ(k:Nat)=>k<=y.length/\Zct v (pre ls i k)=true) (λ k=>[(1, .ptr 1 0 0 0),(4, .int v),(6, .ref 43 1 0 v v),(8, .int i),(9, .int k)]) (λ k=>[(1, .cells [.int m, .d (Zae ls), .d (Zak ar), .d (Zae cs)]),(43, .row 1 ((ZbZ v (pre ls i k)).map D.int))]) (λ k=>y.length-k) 0 ?_ ?_ ?_
        ·exact⟨uJ _,by rw[Zuh];exact hgood⟩
        ·exact kN (kc1 @Zxq) []
        ·rintro k ⟨hk,hgk⟩;rcases uF k y.length with hlk|hgk2
         ·obtain⟨x,hx⟩:=Zad hlk;have hrl:=Zex v (pre ls i k);by_cases hin:0<=x/\x<v
          ·have hg:=ZiO (v:=x.toNat) (c:=v) (by omega) (pre ls i k);rw[show((x.toNat:Nat):Int)=x by omega]at hg;by_cases hd:ZaN (pre ls i k) x<0
           ·have hst:=Zxr (c:=v) ls hy hx hin.1 hd;refine kw1 kO (kc4 hy hx hrl hg) kc0 ?_;refine⟨k+1,?_,kN (kc2 @hst.symm @yR.{0,0}) [],?_⟩
            ·exact⟨by omega,Zui hy hx hgk hin.1 hin.2 hd⟩
            ·omega
           ·have hbad:=Znt (c:=v) hy hx (.inr (.inr (by omega)));rw[hbad];refine kw1 kO (kc4 hy hx hrl hg) kc0 ?_
            all_goals exact⟨_,rfl,rfl,Zaj rfl,trivial⟩
          ·have hbad:=Znt (c:=v) hy hx (by omega);rw[hbad];refine kw kO (kc3 hy hx hrl) kc0 ?_
           repeat' first|exact True.intro|refine Bn.mk ?_ ?_|intro hc
           all_goals exact⟨_,rfl,rfl,Zaj rfl,trivial⟩
         ·have:k=y.length:=by omega
          subst this;have hpf:=Zww hy;refine kw1 kO (kc1 hy) kc0 ?_;refine⟨i+1,?_,kN (kc1 hpf) [],?_⟩
          ·exact⟨by omega,by rw[<-hpf];exact hgk⟩
          ·omega
       ·have:i=ls.length:=by omega
        subst this;rw[yI]at hgood
        try dsimp only
        rw[yI,hgood];refine kw1 kO kc0 kc0 ?_;exact⟨_,rfl,Zda (o:=43) rfl rfl (by simp[Zex]) (uD (by simp[Zex])),Zaj rfl,trivial⟩
def Zgl (a:Lv)(o:List Int):Bool:=decide (0<=a.1/\a.1<=o.length/\a.1<=64/\a.2.2.2.length<=256)&& !a.2.2.2.any Zdv
def Zb0 (a:Lv):Gr×List Int×Bool:=match Zb7 a.2.1 with
 |none=>((0,[]),[],false)
 |some o=>if Zgl a o then(ZaU a,o.take a.1.toNat,true)else((0,[]),[],false)
def Zhz (a:Lv):Bool:=(Zb0 a).2.2&&decide ((ZaH (Zb0 a).1 (Zb0 a).2.1).2=0)&&Zey (ZaH (Zb0 a).1 (Zb0 a).2.1).1 (ZcA a)
theorem ZrR (a:Lv)(hw:wide a):Zaa Tryz.prog 54 [lvD a] (.tup [gD (Zb0 a).1,Zac (Zb0 a).2.1, .bool (Zb0 a).2.2]):=by
 have hr:=Zm7 a hw;obtain⟨m,ls,ar,cs⟩:=a;dsimp only at hr;have hsf:Zb0 (m,ls,ar,cs)=match Zb7 ls with
  |none=>((0,[]),[],false)
  |some o=>if Zgl (m,ls,ar,cs) o then((m,cs.map Zb6),o.take m.toNat,true)else((0,[]),[],false):=rfl
 rw[hsf];rcases hrf:Zb7 ls with _|o
 ·rw[hrf]at hr;dsimp only[Option.getD_none,Option.isSome_none]at hr;refine kE Tryz.func54 ?_;intro hat B X w0;refine kw1 kO kc0 (kc1 hr) ?_;refine⟨_,rfl,⟨_,_,_,_,rfl,?_⟩,rfl,Zaj rfl,trivial⟩;simp(disch:=omega) only[go_sem,simprocAttr,toD];rfl
 ·rw[hrf]at hr;dsimp only[Option.getD_some,Option.isSome_some]at hr;dsimp only;have hol:o.length<=512:=by
   rw[Zb7]at hrf;split at hrf
   ·cases hrf
   ·split at hrf
    ·cases hrf;rw[Zex];omega
    ·cases hrf
  refine kE Tryz.func54 ?_;intro hat B X w0;have h3:=Zb3 0 3 hat rfl rfl;rw[uE]at h3;dsimp only at h3;refine kw kO kc0 (kc1 hr) ?_
  repeat' first|exact True.intro|refine Bn.mk ?_ ?_|intro hc
  all_goals try
   rw[if_neg (by simp[Zgl];omega)];refine⟨_,rfl,⟨_,_,_,_,rfl,?_⟩,rfl,Zaj rfl,trivial⟩;simp(disch:=omega) only[go_sem,simprocAttr,toD];rfl
  obtain⟨n,rfl⟩:∃n:Nat,m=n:=⟨m.toNat,by omega⟩;have hn1:n<=o.length:=by omega
  have hn2:n<=64:=by omega
  have hc2:cs.length<=256:=by omega
  have hso:Zgl ((n:Int),ls,ar,cs) o= !cs.any Zdv:=by
   simp only[Zgl];rw[yM (by omega),kK]
  rw[hso];refine Zau _ (Zcr 7 1 901 2 rfl rfl rfl) ?_;refine Zai (λ(k:Nat)=>k<=cs.length/\∀(j:Nat) y,j<k->cs[j]? =some y->Zdv y=false) (λ k=>[(1, .ptr 1 0 0 0),(2, .ptr 2 0 0 0),(5, .d (Zac o)),(7, .ptr 7 0 0 0),(8, .int k)]) (λ k=>[(1, .cells [.int n, .d (Zae ls), .d (Zak ar), .d (Zae cs)]),(2, .cells [.int 0, .nilS]),(7, .cells [.int n, .ref 901 2 0 k k]),(901, .row 2 (((cs.take k).map Zb6).map ZaY))]) (λ k=>cs.length-k) 0 ?_ ?_ ?_
  ·exact⟨uJ _,λ j y h=>by omega⟩
  ·exact kN (kc2 @yY.{0} @yT.{0,0}) []
  ·rintro k ⟨hk,hinv⟩;rcases uF k cs.length with hlt|hge
   ·obtain⟨c,hc0⟩:=Zad hlt;by_cases hsc:c.length<2
    ·have:cs.any Zdv=true:=ZcZ hc0 (by simpa[Zdv]using hsc);rw[this];refine kw1 kO (kc1 hc0) kc0 ?_;refine⟨_,rfl,⟨_,_,_,_,rfl,?_⟩,rfl,Zaj rfl,trivial⟩;simp(disch:=omega) only[go_sem,simprocAttr,toD];rfl
    ·have hcl:c.length<=9223372036854775807:=by have:=Zno (m:=c.map D.int) (k:=k) 0 3 hat rfl rfl (by rw[uI,hc0];rfl);rwa [uE]at this
     have e1:=ZaS (r:=c) (i:=0) (by omega);have e2:=Zen (r:=c) (v:=(c.length:Int)-1) (by omega) (by omega);have hts:=ZaD hc0;have hlk:(((cs.take k).map Zb6).map ZaY).length=k:=by rw[uE,uE,uS];omega
     have htk:List.take k (((cs.take k).map Zb6).map ZaY)=((cs.take k).map Zb6).map ZaY:=uD (by rw[hlk];exact uH _);refine kw1 kO (kc4 hc0 e1 e2 hlk) kc0 ?_;refine⟨k+1,?_,kN (kc3 hts @yB.{0,0} htk) [(901,73)],?_⟩
     ·exact⟨by omega,ZbI hinv hc0 (by simpa[Zdv]using hsc)⟩
     ·omega
   ·have:k=cs.length:=by omega
    subst this;have hsc:cs.any Zdv=false:=ZdB λ j y hj=>hinv j y hj
    try dsimp only
    rw[yI,hsc,if_pos (by decide)];have hlA:((cs.map Zb6).map ZaY).length=cs.length:=by simp
    refine kw1 kO kc0 kc0 ?_;refine⟨_,rfl,⟨_,_,_,_,rfl,?_⟩,?_,Zaj rfl,trivial⟩
    ·simp(disch:=omega) only[go_sem,simprocAttr,toD,hlA,uH,qS];rw[uD (by rw[hlA];exact uH _)]
    ·exact ZcS (by rw[Ac])
theorem Zp9 {a:Lv}(h:(Zb0 a).2.2=true):a.2.1.length<=256/\tot a.2.1<=512:=by
 rw[Zb0]at h;split at h
 ·cases h
 ·rename_i o ho;rw[Zb7]at ho;split at ho
  ·cases ho
  ·omega
theorem ZwM (a:Lv)(hw:wide a):Zaa Tryz.prog 15 [lvD a] (.bool (Zhz a)):=by
 have hs:=ZrR a hw;have hb:=ZwL (Zb0 a).1 (Zb0 a).2.1;have hm:=ZwN (ZaH (Zb0 a).1 (Zb0 a).2.1).1 (ZcA a);rcases h1:(Zb0 a).2.2 with _|_
 ·rw[h1]at hs;rw[Zhz,h1];refine kE Tryz.func15 ?_;intro hat B X w0;refine kw1 kO kc0 (kc1 hs) ?_;exact Zaj rfl
 ·rw[h1]at hs;rw[Zhz,h1];obtain⟨t1,t2⟩:=Zp9 h1;have hp:=Zwp a (by omega) (λ y hy=>by have:=ZcV hy;omega);generalize Zb0 a=S at*;generalize ZaH S.1 S.2.1=BF at*;obtain⟨b,e⟩:=BF;dsimp only at hb hm|-;by_cases he:e=0
  ·subst he;rcases hsv:Zey b (ZcA a)with _|_<;>rw[hsv]at hm
   all_goals
    refine kE Tryz.func15 ?_;intro hat B X w0;refine kw1 kO kc0 (kc4 hs hb hp hm) ?_;exact Zaj rfl
  ·refine kE Tryz.func15 ?_;intro hat B X w0;refine kw1 kO (kc1 he) (kc4 hs hb hp hm) ?_;refine Zaj ?_;simp[he]
end Go.Proofs.YtjjbhjnpeenbkaaGreatDoor
