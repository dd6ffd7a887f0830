/- Levels built: the walk. -/
import Derived.Test.YtjjbhjnpeenbkaaGreatDoorA
set_option linter.unusedSimpArgs false
set_option linter.unusedVariables false
set_option maxHeartbeats 16000000
namespace Go.Proofs.YtjjbhjnpeenbkaaGreatDoor
open Go Go.PS Go.Proofs
set_option maxRecDepth 100000
attribute [local irreducible] Zad wpG Zaa Zag
theorem Zl4 {g:Gr}{r:List Int}(h:Zeh g r=true):gOk g=true/\(r.length:Int)=g.1/\r.any Zdo=false/\∀v:Nat,0<=at0 r v/\at0 r v<=255:=by
 simp only[Zeh,uL,uF,yC]at h;obtain⟨⟨h1,h2⟩,h3⟩:=h;refine⟨h1,h2,h3,λ v=>?_⟩;rw[at0];cases hx:r[((v:Nat):Int).toNat]? with
 |none=>simp
 |some x=>
  simp only[yS]at h3;have:=h3 x (uA hx);simp only[Zdo,uF]at this;dsimp only[Option.getD_some];omega
theorem ZvJ (g:Gr)(r:List Int)(h:Zeh g r=false):Zaa Tryz.prog 49 [gD g,Zab r] (.tup [lvD lv0, .int 1]):=by
 have hv:=Zgi g;have hc:=ZjK r 99 Zdo ZoJ;rcases h1:gOk g with _|_<;>rw[h1]at hv
 ·refine kE Tryz.func49 ?_;intro hat B X w0;refine kw1 kO kc0 (kc1 hv) ?_
  all_goals
   refine⟨_,rfl,⟨_,_,_,_,rfl,?_⟩,Zai ?_,trivial⟩
   ·simp(disch:=omega) only[go_sem,simprocAttr,toD];rfl
   ·rfl
 ·by_cases h2:(r.length:Int)=g.1
  ·have h3:r.any Zdo=true:=by simpa[Zeh,h1,h2]using h
   rw[h3]at hc;refine kE Tryz.func49 ?_;intro hat B X w0;have hl:=ZaJ 1 hat rfl;rw[uC]at hl;refine kw1 kO (kc1 h2) (kc2 hv hc) ?_
   all_goals
    refine⟨_,rfl,⟨_,_,_,_,rfl,?_⟩,Zai ?_,trivial⟩
    ·simp(disch:=omega) only[go_sem,simprocAttr,toD];rfl
    ·rfl
  ·refine kE Tryz.func49 ?_;intro hat B X w0;have hl:=ZaJ 1 hat rfl;rw[uC]at hl;refine kw1 kO (kc1 h2) (kc2 hv hc) ?_
   all_goals
    refine⟨_,rfl,⟨_,_,_,_,rfl,?_⟩,Zai ?_,trivial⟩
    ·simp(disch:=omega) only[go_sem,simprocAttr,toD];rfl
    ·rfl
theorem ZvK (g:Gr)(r:List Int)(h:Zeh g r=true)(h4:g.2.any ZdU=true):Zaa Tryz.prog 49 [gD g,Zab r] (.tup [lvD lv0, .int 8]):=by
 have hv:=Zgi g;have hc:=ZjK r 99 Zdo ZoJ;have hd:=ZqM g.2 101 ZdU Zsx;obtain⟨h1,h2,h3,h5⟩:=Zl4 h;rw[h1]at hv;rw[h3]at hc;rw[h4]at hd;refine kE Tryz.func49 ?_;intro hat B X w0;have hl:=ZaJ 1 hat rfl;rw[uC]at hl;refine kw1 kO (kc1 h2) (kc3 hv hc hd) ?_
 all_goals
  refine⟨_,rfl,⟨_,_,_,_,rfl,?_⟩,Zai ?_,trivial⟩
  ·simp(disch:=omega) only[go_sem,simprocAttr,toD];rfl
  ·rfl
theorem Zpe {r:List Int}{l:List Arc}(h5:∀v:Nat,0<=at0 r v/\at0 r v<=255)(hin:∀(k:Nat) a,l[k]? =some a->0<=a.1/\0<=a.2):∀k:Nat,-(256*(k:Int))<=Zba r l k/\Zba r l k<=256*(k:Int)
 |0=>by simp[Zba]
 |k+1=>by
  have ih:=Zpe h5 hin k;cases ha:l[k]? with
  |none=>simp only[Zba,ha];omega
  |some a=>
   have h1:=hin k a ha;have e1:=h5 a.1.toNat;have e2:=h5 a.2.toNat;rw[show((a.1.toNat:Nat):Int)=a.1 by omega]at e1;rw[show((a.2.toNat:Nat):Int)=a.2 by omega]at e2;have e:Zba r l (k+1)=Zba r l k+(at0 r a.2-at0 r a.1-1):=by rw[Zba,ha]
   rw[e];generalize at0 r a.2=x at*;generalize at0 r a.1=y at*;omega
theorem Zk0 {r:List Int}{l:List Arc}(hgap:∀(k:Nat) a,l[k]? =some a->0<=at0 r a.2-at0 r a.1-1):∀e,e<=l.length->((Zas r l e).length:Int)=r.length+Zba r l e:=by
 intro e
 induction e with
 |zero=>intro _;simp[Zas,Zba]
 |succ e ih=>
  intro he;obtain⟨a,ha⟩:=Zac (show e<l.length by omega);have h1:=hgap e a ha;have e1:Zba r l (e+1)=Zba r l e+(at0 r a.2-at0 r a.1-1):=by rw[Zba,ha]
  rw[Ziz ha,uG,Zhd,e1,ZaI];have:=ih (by omega);omega
theorem Zu4 {r:List Int}{l:List Arc}(hgap:∀(k:Nat) a,l[k]? =some a->0<=at0 r a.2-at0 r a.1-1):∀(m e:Nat),e<=m->Zba r l e<=Zba r l m:=by
 intro m
 induction m with
 |zero=>intro e he;rw[show e=0 by omega];exact qX _
 |succ m ih=>
  intro e he;rcases uE e (m+1)with h|h
  ·have:=ih e (by omega);cases ha:l[m]? with
   |none=>have e1:Zba r l (m+1)=Zba r l m+0:=by rw[Zba,ha]
          omega
   |some a=>
    have e1:Zba r l (m+1)=Zba r l m+(at0 r a.2-at0 r a.1-1):=by rw[Zba,ha]
    have:=hgap m a ha;omega
  ·rw[show e=m+1 by omega];exact qX _
theorem Zk6 {r:List Int}{l:List Arc}(hgap:∀(k:Nat) a,l[k]? =some a->0<=at0 r a.2-at0 r a.1-1):∀e,e<=l.length->(ZaV r l e).length+r.length=(Zas r l e).length+e:=by
 intro e
 induction e with
 |zero=>intro _;simp[ZaV,Za2,Zas]
 |succ e ih=>
  intro he;obtain⟨a,ha⟩:=Zac (show e<l.length by omega);have:=ih (by omega);simp only[ZaV,Za2,uG]at this|-;rw[Ziz ha,uG,Zhd,ZiD,ha];dsimp only;rw[Zox];omega
theorem ZiN (r:List Int)(l:List Arc):∀e,e<=l.length->(Za8 r l e).length=e:=by
 intro e
 induction e with
 |zero=>intro _;simp[Za8,Za2]
 |succ e ih=>
  intro he;obtain⟨a,ha⟩:=Zac (show e<l.length by omega);have:=ih (by omega);simp only[Za8,Za2,uG]at this|-;rw[ZjH,ha];dsimp only[List.length_cons,List.length_nil];omega
theorem ZvL (g:Gr)(r:List Int)(h:Zeh g r=true)(h4:g.2.any ZdU=false):Zaa Tryz.prog 49 [gD g,Zab r] (.tup [lvD (Zay g r).1, .int (Zay g r).2]):=by
 have hv:=Zgi g;have hc:=ZjK r 99 Zdo ZoJ;have hd:=ZqM g.2 101 ZdU Zsx;obtain⟨h1,h2,h3,h5⟩:=Zl4 h;have hbf:Zay g r=if g.2.any (ZcY r)then(lv0,3)else if 512<g.1+Zba r g.2 g.2.length then(lv0,2)else(Zfa g r,0):=by
  rw[Zay,h,h4];simp
 obtain⟨g1,g2,g3,g4⟩:=ZjU h1;rw[h1]at hv;rw[h3]at hc;rw[h4]at hd;obtain⟨m,l⟩:=g;dsimp only at g1 g2 g3 g4 h2 hd hbf;obtain⟨n,rfl⟩:∃n:Nat,m=n:=⟨m.toNat,by omega⟩;have hrn:r.length=n:=by omega
 have hsum:=Zpe (r:=r) (l:=l) h5 (λ k a ha=>by have:=g4 k a ha;omega);refine kE Tryz.func49 ?_;intro hat B X w0;refine kw1 kO (kc1 hrn) (kc3 hv hc hd) ?_;refine Zaf (λ(k:Nat)=>k<=l.length/\∀(j:Nat) y,j<k->l[j]? =some y->ZcY r y=false) (λ k=>[(1, .d (Zab r)),(2, .ptr 2 0 0 0),(4, .ptr 4 0 0 0),(6, .int (n+Zba r l k)),(41, .d (Zaj l)),(42, .int l.length),(43, .int k)]) (λ k=>[(2, .cells [.int n, .d (Zaj l)]),(4, .cells [.int 0, .nilS, .nilS, .nilS])]) (λ k=>l.length-k) 0 ?_ ?_ ?_
 ·exact⟨uH _,λ j y h=>by omega⟩
 ·exact kN (kc2 @Zba.eq_1 @jW) []
 ·rintro k ⟨hk,hinv⟩;have hsk:=hsum k;rcases uE k l.length with hlt|hge
  ·obtain⟨a,ha⟩:=Zac hlt;have hai:=g4 k a ha;have e1:=ZdK (r:=r) (v:=a.1) hai.1 (by omega);have e2:=ZdK (r:=r) (v:=a.2) hai.2.2.1 (by omega);have f1:=h5 a.1.toNat;have f2:=h5 a.2.toNat;rw[show((a.1.toNat:Nat):Int)=a.1 by omega]at f1;rw[show((a.2.toNat:Nat):Int)=a.2 by omega]at f2;have hss:Zba r l (k+1)=Zba r l k+(at0 r a.2-at0 r a.1-1):=by rw[Zba,ha]
   rcases hup:ZcY r a with _|_
   ·rw[ZcY,qC]at hup;refine kw1 kO (kc4 ha e1 e2 hrn) kc0 ?_;refine⟨k+1,?_,kN (kc2 hss @zJ) [],?_⟩
    ·exact⟨by omega,Zbr hinv ha (by rw[ZcY,qC];exact hup)⟩
    ·omega
   ·have hany:l.any (ZcY r)=true:=ZcE ha hup;rw[ZcY,uF]at hup;rw[hbf,if_pos hany];refine kw1 kO (kc4 ha e1 e2 hrn) kc0 ?_;refine⟨_,rfl,⟨_,_,_,_,rfl,?_⟩,Zai ?_,trivial⟩
    ·simp(disch:=omega) only[go_sem,simprocAttr,toD];rfl
    ·rfl
  ·have:k=l.length:=by omega
   subst this;have hany:l.any (ZcY r)=false:=Zc2 λ j y hj=>hinv j y (by omega)
   rw[hbf,if_neg (by rw[hany];decide)];by_cases hbig:512<(n:Int)+Zba r l l.length
   ·rw[if_pos hbig];refine kw1 kO kc0 kc0 ?_;refine⟨_,rfl,⟨_,_,_,_,rfl,?_⟩,Zai ?_,trivial⟩
    ·simp(disch:=omega) only[go_sem,simprocAttr,toD];rfl
    ·rfl
   ·rw[if_neg hbig];have hgap:∀(k:Nat) a,l[k]? =some a->0<=at0 r a.2-at0 r a.1-1:=λ k a ha=>by
     have:=yS.1 hany a (uA ha);rw[ZcY,uF]at this;omega
    rcases qM n with hn0|hn0
    ·subst hn0;have hl0:l=[]:=by
      cases l with
      |nil=>rfl
      |cons a l=>have:=g4 0 a rfl;omega
     have hr0:r=[]:=jN.1 hrn;subst hl0 hr0;have hs0:Zba [] [] 0=0:=rfl;refine kw1 kO (kc1 hs0) kc0 ?_;refine Zaf (λ(i:Nat)=>True) (λ i=>[(1, .d (Zab [])),(2, .ptr 2 0 0 0),(4, .ptr 4 0 0 0),(10, .ptr 10 0 0 0),(80, .d (Zab [])),(81, .int 0),(82, .int i)]) (λ i=>[(2, .cells [.int 0, .d (Zaj [])]),(4, .cells [.int 0, .nilS, .nilS, .nilS]),(10, .cells [.int 0, .nilS, .nilS, .nilS])]) (λ i=>0) 0 ?_ ?_ ?_
     ·trivial
     ·exact kN kc0 []
     ·intro i _;refine kw1 kO kc0 kc0 ?_;refine Zaf (λ(e:Nat)=>True) (λ e=>[(1, .d (Zab [])),(2, .ptr 2 0 0 0),(4, .ptr 4 0 0 0),(10, .ptr 10 0 0 0),(13, .int 0),(103, .d (Zaj [])),(104, .int 0),(105, .int e)]) (λ e=>[(2, .cells [.int 0, .d (Zaj [])]),(4, .cells [.int 0, .nilS, .nilS, .nilS]),(10, .cells [.int 0, .nilS, .nilS, .nilS])]) (λ e=>0) 0 ?_ ?_ ?_
      ·trivial
      ·exact kN kc0 []
      ·intro e _;refine kw1 kO kc0 kc0 ?_;refine⟨_,rfl,⟨_,_,_,_,rfl,?_⟩,Zai ?_,trivial⟩
       ·simp(disch:=omega) only[go_sem,simprocAttr,toD];rfl
       ·rfl
    ·have hmx:=ZvV r (by omega);obtain⟨N,hN⟩:∃N:Nat,ZcN r (r.length-1)=(N:Int)-1:=⟨(ZcN r (r.length-1)+1).toNat,by have:=Zi4 r (r.length-1) 0 (by omega);have:=h5 0;omega⟩;have hNle:=ZlJ (λ j=>(h5 j).2) (r.length-1);have hNge:=Zi4 r (r.length-1);have hN0:=hNge 0 (by omega);have h50:=h5 0;rw[hN]at hmx hNle hN0;have hrk:∀v:Nat,v<n->at0 r v<N:=λ v hv=>by have:=hNge v (by omega);omega
     have allR_len:∀e,e<=l.length->(Zas r l e).length<=512:=λ e he=>by
      have h1:=Zk0 hgap e he;have h2:=Zu4 hgap l.length e he;omega
     refine kw1 kO (kc1 @Int.sub_add_cancel) (kc1 hmx) ?_;refine Zao _ (Zch 10 2 901 2 rfl rfl rfl) ?_;refine Zao _ (Zch 10 3 902 1 rfl rfl rfl) ?_;refine Zao _ (ZjO 1 78 1 N rfl (λ i hi=>by simp(disch:=omega) only[go_sem,simprocAttr,Zkj,Zes]) (by decide) (by decide)) ?_;refine Zfd (λ(i:Nat)=>i<=n) (λ i=>[(1, .d (Zab r)),(2, .ptr 2 0 0 0),(4, .ptr 4 0 0 0),(10, .ptr 10 0 0 0),(80, .d (Zab r)),(81, .int n),(82, .int i)]) (λ i=>[⟨1,78,1,N,λ k=>(Za6 (r.take i) k).map D.int⟩]) (λ i=>[(2, .cells [.int n, .d (Zaj l)]),(4, .cells [.int 0, .nilS, .nilS, .nilS]),(10, .cells [.int n, .ref 78 1 0 N N, .ref 901 2 0 0 0, .ref 902 1 0 0 0]),(901, .row 2 []),(902, .row 1 [])]) (λ i=>n-i) 0 ?_ ?_ ?_
     ·exact uH _
     ·refine kF (kc1 hrn) [] [] ?_;exact kT0 (kc3 @Za6.eq_1 @jG @jX.{0})
     ·intro i hi;rcases uE i n with hin|hin
      ·have gi:=ZaG (r:=r) (i:=i) (by omega);have f1:=h5 i;have f2:=hrk i hin;obtain⟨p,hp⟩:∃p:Nat,at0 r i=p:=⟨(at0 r i).toNat,by omega⟩;have hpN:p<N:=by omega
       have hstep:∀k:Nat,Za6 (r.take (i+1)) k=if k=p then Za6 (r.take i) k++[(i:Int)]else Za6 (r.take i) k:=λ k=>by
        rw[ZaA gi,ZnW,hp,yJ,jE (by omega)];by_cases c:k=p
        ·rw[if_pos (by omega),if_pos c]
        ·rw[if_neg (by omega),if_neg c]
       have hll:=Zj4 (r.take i) p;rw[yJ]at hll;rw[hp]at gi;refine Zao _ (ZfT _ _ [2,4,10,78,901,902] 78 p 900 1 1 N (by first|rfl|(simp(disch:=omega) only[go_sem,simprocAttr];done)|(simp(disch:=omega) only[go_sem,simprocAttr];rfl)) (by first|(simp(disch:=omega) only[go_sem,simprocAttr];done)|(simp(disch:=omega) only[go_sem,simprocAttr];rfl)) (by first|(simp(disch:=omega) only[go_sem,simprocAttr];done)|(simp(disch:=omega) only[go_sem,simprocAttr];rfl)) (λ i hi hne=>by simp(disch:=omega) only[go_sem,simprocAttr,hne];(repeat' split)<;>exact .ref _ _ _ _ _ ⟨by simp(disch:=omega) only[go_sem,simprocAttr,hne],by simp(disch:=omega) only[go_sem,simprocAttr,hne]⟩) (by(repeat' first|refine ZfJ ?_|exact ZfK (ids:=[2,4,10,78,901,902]) rfl rfl (yA rfl)|refine ZfI ?_|refine ZfL ?_|refine ZfG ?_|refine ZfM ?_|refine ZfN ?_|refine ZfH (by dsimp only;omega) (by dsimp only;omega) (by omega) (by omega) (yA rfl) ?_);done) rfl rfl rfl) ?_;refine kw1 kO (kc4 gi hrn @yE.{0} @Zal) kc0 ?_;refine⟨i+1,?_,kF kc0 [(fid 1 p,97)] [] ?_,?_⟩
       ·omega
       ·exact kT1 (kc7 @hstep @uQ.{0,0} @uG.{0} @uC.{0,0} @yB.{0} @uY.{0} @Zal) p
       ·omega
      ·have:i=n:=by omega
       subst this;have hti:r.take i=Zas r l 0:=by rw[uD (by omega)];simp[Zas]
       try dsimp only
       rw[hti];refine kw1 kP kc0 kc0 ?_;refine Zfd (λ(e:Nat)=>e<=l.length) (λ e=>[(1, .d (Zab r)),(2, .ptr 2 0 0 0),(4, .ptr 4 0 0 0),(10, .ptr 10 0 0 0),(13, .int (Zas r l e).length),(103, .d (Zaj l)),(104, .int l.length),(105, .int e)]) (λ e=>[⟨1,78,1,N,λ k=>(Za6 (Zas r l e) k).map D.int⟩]) (λ e=>[(2, .cells [.int i, .d (Zaj l)]),(4, .cells [.int 0, .nilS, .nilS, .nilS]),(10, .cells [.int i, .ref 78 1 0 N N, .ref 901 2 0 (ZaV r l e).length (ZaV r l e).length, .ref 902 1 0 (Za8 r l e).length (Za8 r l e).length]),(901, .row 2 ((ZaV r l e).map Za0)),(902, .row 1 ((Za8 r l e).map Zab))]) (λ e=>l.length-e) 0 ?_ ?_ ?_
       ·exact uH _
       ·refine kF (kc5 @Zas.eq_1 @yX.{0} @Bb.{0,0} @yT.{0} hrn) [] [] ?_;exact kT0 kc0
       ·intro e he;rcases uE e l.length with hel|hel
        ·obtain⟨a,ha⟩:=Zac hel;have hai:=g4 e a ha;have hga:=hgap e a ha;have e1:=ZdK (r:=r) (v:=a.1) hai.1 (by omega);have e2:=ZdK (r:=r) (v:=a.2) hai.2.2.1 (by omega);have f1:=h5 a.1.toNat;have f2:=hrk a.2.toNat (by omega);rw[show((a.1.toNat:Nat):Int)=a.1 by omega]at f1;rw[show((a.2.toNat:Nat):Int)=a.2 by omega]at f2;have hgn:(ZaI r a:Int)=at0 r a.2-at0 r a.1-1:=by rw[ZaI];omega
         have hall:=Ziz (r:=r) ha;have hal:=allR_len e he;generalize hA:Zas r l e=all at hal hall;refine kw1 (kow (Nat.beq 111) (b:=false)) (kc3 ha e1 hrn) kc0 ?_;refine Zfd (λ(u:Nat)=>u<=ZaI r a) (λ u=>[(1, .d (Zab r)),(2, .ptr 2 0 0 0),(4, .ptr 4 0 0 0),(10, .ptr 10 0 0 0),(13, .int (all.length+u)),(15, .ptr 15 0 0 0),(16, .ref 903 1 0 (u+1) (u+1)),(17, .int (at0 r a.1+1+u)),(103, .d (Zaj l)),(104, .int l.length),(105, .int e)]) (λ u=>[⟨1,78,1,N,λ k=>(Za6 (all++Zan r a u) k).map D.int⟩]) (λ u=>[(2, .cells [.int i, .d (Zaj l)]),(4, .cells [.int 0, .nilS, .nilS, .nilS]),(15, .cells [.int a.1, .int a.2]),(10, .cells [.int i, .ref 78 1 0 N N, .ref 901 2 0 (ZaV r l e).length (ZaV r l e).length, .ref 902 1 0 (Za8 r l e).length (Za8 r l e).length]),(901, .row 2 ((ZaV r l e).map Za0)),(902, .row 1 ((Za8 r l e).map Zab)),(903, .row 1 ((Zcw all.length a u).map D.int))]) (λ u=>ZaI r a-u) 0 ?_ ?_ ?_
         ·exact uH _
         ·refine kF (kc5 @Zcw.eq_1 @Zan.eq_1 @jG @yT.{0} hA) [] [(903,111)] ?_;exact kT0 (kc4 @Zan.eq_1 @jG @yT.{0} hA)
         ·intro u hu;rcases uE u (ZaI r a)with hul|hul
          ·obtain⟨p,hp⟩:∃p:Nat,at0 r a.1+1+u=p:=⟨(at0 r a.1+1+u).toNat,by omega⟩;have hpN:p<N:=by omega
           have hlen:(all++Zan r a u).length=all.length+u:=by rw[uG,Zhd]
           have hstep:∀k:Nat,Za6 (all++Zan r a (u+1)) k=if k=p then Za6 (all++Zan r a u) k++[(all.length:Int)+u]else Za6 (all++Zan r a u) k:=λ k=>by
            rw[Zod,<-qK,ZnW,hp,hlen,qQ];by_cases c:k=p
            ·rw[if_pos (by omega),if_pos c]
            ·rw[if_neg (by omega),if_neg c]
           have hll:=Zj4 (all++Zan r a u) p;have hcl:=Zgn all.length a u;have htk:((Zcw all.length a u).map D.int).take (u+1)=(Zcw all.length a u).map D.int:=uD (by rw[uC,hcl];exact uJ _);have hcs:=ZqH all.length a u;refine Zao _ (ZfT _ _ [2,4,15,10,78,901,902,903] 78 p 900 1 1 N (by first|rfl|(simp(disch:=omega) only[go_sem,simprocAttr];done)|(simp(disch:=omega) only[go_sem,simprocAttr];rfl)) (by first|(simp(disch:=omega) only[go_sem,simprocAttr];done)|(simp(disch:=omega) only[go_sem,simprocAttr];rfl)) (by first|(simp(disch:=omega) only[go_sem,simprocAttr];done)|(simp(disch:=omega) only[go_sem,simprocAttr];rfl)) (λ i hi hne=>by simp(disch:=omega) only[go_sem,simprocAttr,hne];(repeat' split)<;>exact .ref _ _ _ _ _ ⟨by simp(disch:=omega) only[go_sem,simprocAttr,hne],by simp(disch:=omega) only[go_sem,simprocAttr,hne]⟩) (by(repeat' first|refine ZfJ ?_|exact ZfK (ids:=[2,4,15,10,78,901,902,903]) rfl rfl (yA rfl)|refine ZfI ?_|refine ZfL ?_|refine ZfG ?_|refine ZfM ?_|refine ZfN ?_|refine ZfH (by dsimp only;omega) (by dsimp only;omega) (by omega) (by omega) (yA rfl) ?_);done) rfl rfl rfl) ?_;refine kw1 kO (kc7 e2 hp hrn @yE.{0} @Zal hcl htk) kc0 ?_;refine⟨u+1,?_,eF [(fid 1 p,137)] [(903,142)] _ _ _ (by refine⟨?_,?_⟩<;>(repeat' first|exact fmn|refine fmc ⟨(by first|rfl|(simp(disch:=omega) only[go_sem,simprocAttr,inL,hcs,uQ,qQ,gV,<-zJ,hp];first|done|omega|(congr 1;done))),?_⟩);done) ?_,?_⟩
           ·omega
           ·exact kT1 (kc7 @hstep @uQ.{0,0} @uG.{0} @uC.{0,0} @yB.{0} @uY.{0} @Zal) p
           ·omega
          ·have:u=ZaI r a:=by omega
           subst this;have hcl:=Zgn all.length a (ZaI r a);have htk:((Zcw all.length a (ZaI r a)).map D.int).take (ZaI r a+1)=(Zcw all.length a (ZaI r a)).map D.int:=uD (by rw[uC,hcl];exact uJ _);have hcd:ZaB r all.length a=Zcw all.length a (ZaI r a)++[a.2]:=rfl;have hcl2:=Zll r all.length a;refine kw1 kP (kc4 e2 hrn hcl htk) kc0 ?_;refine Zfd (λ(j:Nat)=>j<=ZaI r a+1) (λ j=>[(1, .d (Zab r)),(2, .ptr 2 0 0 0),(4, .ptr 4 0 0 0),(10, .ptr 10 0 0 0),(13, .int (all.length+ZaI r a)),(15, .ptr 15 0 0 0),(16, .ref 903 1 0 (ZaI r a+2) (ZaI r a+2)),(18, .int ((j:Int)+1)),(103, .d (Zaj l)),(104, .int l.length),(105, .int e)]) (λ j=>[⟨1,78,1,N,λ k=>(Za6 (all++Zan r a (ZaI r a)) k).map D.int⟩]) (λ j=>[(2, .cells [.int i, .d (Zaj l)]),(4, .cells [.int 0, .nilS, .nilS, .nilS]),(15, .cells [.int a.1, .int a.2]),(10, .cells [.int i, .ref 78 1 0 N N, .ref 901 2 0 (ZaV r l e++ZbV (ZaB r all.length a) j).length (ZaV r l e++ZbV (ZaB r all.length a) j).length, .ref 902 1 0 (Za8 r l e).length (Za8 r l e).length]),(901, .row 2 ((ZaV r l e++ZbV (ZaB r all.length a) j).map Za0)),(902, .row 1 ((Za8 r l e).map Zab)),(903, .row 1 ((ZaB r all.length a).map D.int))]) (λ j=>ZaI r a+1-j) 0 ?_ ?_ ?_
           ·exact uH _
           ·refine kF (kc5 hcd @uQ.{0,0} @ZbV.eq_1 @jG @yT.{0}) [] [(903,149)] ?_;exact kT0 kc0
           ·intro j hj;have hpl:=Zox (ZaB r all.length a) j;have hafl:=Zk6 hgap e he;rw[hA]at hafl;rcases uE j (ZaI r a+1)with hjl|hjl
            ·have gc1:=ZaG (r:=ZaB r all.length a) (i:=j) (by omega);have gc2:=ZaG (r:=ZaB r all.length a) (i:=j+1) (by omega);have en:((j:Int)+1).toNat=j+1:=by omega
             have hps:=Ztl (ZaB r all.length a) j;have hpa:Za0 (Zhi (ZaB r all.length a) j)= .ag [.int (at0 (ZaB r all.length a) j), .int (at0 (ZaB r all.length a) ((j+1:Nat):Int))]:=rfl;have hap:ZaV r l e++ZbV (ZaB r all.length a) (j+1)=(ZaV r l e++ZbV (ZaB r all.length a) j)++[Zhi (ZaB r all.length a) j]:=by rw[hps,qK]
             have hal2:(ZaV r l e++ZbV (ZaB r all.length a) j).length<=2000:=by rw[uG];omega
             try dsimp only
             generalize ZaB r all.length a=c at*;generalize hG:ZaV r l e++ZbV c j=G at*;refine kw1 kO (kc6 gc1 gc2 en hcl2 @Cx @Zal) kc0 ?_;refine⟨j+1,?_,kF (kc8 hap @uQ.{0,0} @uG.{0} @yB.{0} @uY.{0} hpa @qQ @gV) [] [(901,169)] ?_,?_⟩
             ·omega
             ·exact kT0 kc0
             ·omega
            ·have:j=ZaI r a+1:=by omega
             subst this;have hcf:Za8 r l (e+1)=Za8 r l e++[ZaB r all.length a]:=by rw[Za8,Za2,ZjH,ha,hA];rfl
             have haf:ZaV r l (e+1)=ZaV r l e++ZbV (ZaB r all.length a) (ZaI r a+1):=by rw[ZaV,Za2,ZiD,ha,hA];rfl
             have hcfl:=ZiN r l e he;have hnl:=Zhd r a (ZaI r a);have hcd2:((ZaB r all.length a).map D.int).take (ZaI r a+2)=(ZaB r all.length a).map D.int:=uD (by rw[uC,hcl2];exact uJ _);have hcft:((Za8 r l e).map Zab).take e=(Za8 r l e).map Zab:=uD (by rw[uC,hcfl];exact uJ _);refine Zao _ (Zyh _ _ _ 903 1 ((ZaB r all.length a).map D.int) rfl rfl rfl rfl (by decide)) ?_;refine kw1 kO (kc5 hcl2 @uC.{0,0} hcd2 hcfl @Zal) kc0 ?_;refine⟨e+1,?_,kF (kc8 hcf haf hall @uQ.{0,0} @uG.{0} @yB.{0} @uY.{0} (kc7 hnl @qQ @gV hcl2 hcd2 hcfl hcft)) [] [(902,175)] ?_,?_⟩
             ·omega
             ·exact kT0 (kc1 hall)
             ·omega
        ·have:e=l.length:=by omega
         subst this
         try dsimp only
         refine Zao _ (ZjP _ _ _ _ ⟨Zb0 rfl,Zb0 rfl,(by(repeat' first|exact fmn|refine fmc ⟨⟨yA rfl,yA rfl,by dsimp only;omega⟩,?_⟩);done)⟩ rfl [2,4,10,78,901,902] rfl rfl rfl rfl) ?_;refine kw1 kO kc0 kc0 ?_;refine⟨_,rfl,⟨_,_,_,_,rfl,?_⟩,Zai ?_,trivial⟩
         ·simp(disch:=omega) only[go_sem,simprocAttr,toD];have hNt:(ZcN r (r.length-1)+1).toNat=N:=by omega
          rw[Zal,Zal,if_pos (by rw[zU];exact uJ _),uD (by rw[uC,zU];exact uJ _)];simp only[Zfa,lvD,hNt,Zae,Zab,Zaj,gR];rw[if_neg (by omega),gR];rfl
         ·rfl
theorem ZpE (g:Gr)(r:List Int):Zaa Tryz.prog 49 [gD g,Zab r] (.tup [lvD (Zay g r).1, .int (Zay g r).2]):=by
 rcases h:Zeh g r with _|_
 ·have:=ZvJ g r h;have e:Zay g r=(lv0,1):=by rw[Zay,if_pos h]
  rw[e];exact this
 ·rcases h4:g.2.any ZdU with _|_
  ·exact ZvL g r h h4
  ·have:=ZvK g r h h4;have e:Zay g r=(lv0,8):=by rw[Zay,if_neg (by rw[h];decide),if_pos h4]
   rw[e];exact this
theorem Zhg (r:List Int):∀d,d∈List.map D.int r->d.cells.length=1:=by
 intro d hd;obtain⟨x,_,rfl⟩:=uP.1 hd;rfl
def hiN (r:List Int):Nat->Int
 |0=>-1
 |k+1=>max (hiN r k) (at0 r k)
theorem ZrN {r:List Int}(h:∀v:Nat,0<=at0 r v):∀k:Nat,hiN r (k+1)=ZcN r k
 |0=>by
  have h0:=h 0;show max (-1) (at0 r ((0:Nat):Int))=at0 r ((0:Nat):Int);omega
 |k+1=>by rw[hiN,ZrN h k,ZcN]
def ZbH (all:List Int)(k:Nat):List (List Int):=(List.range k).map λ j=>Za6 all j
theorem ZzP (all:List Int)(k:Nat):ZbH all (k+1)=ZbH all k++[Za6 all k]:=by simp[ZbH,qN]
theorem ZnX (all:List Int)(k:Nat):(ZbH all k).length=k:=by simp[ZbH]
theorem ZAg (n:Nat)(l:List Arc)(r:List Int)(hrn:r.length=n)(hn:n<=64)(hl:l.length<=256)(g4:∀(k:Nat) (a:Arc),l[k]? =some a->0<=a.1/\a.1<n/\0<=a.2/\a.2<n)
  (h5:∀v:Nat,0<=at0 r v/\at0 r v<=255)(hgap:∀(k:Nat) a,l[k]? =some a->0<=at0 r a.2-at0 r a.1-1)(hbig:(n:Int)+Zba r l l.length<=512):
  Zaa Tryz.prog 113 [gD (n,l),Zab r] (lvD (Zfa (n,l) r)):=by
 have allR_len:∀e,e<=l.length->(Zas r l e).length<=512:=λ e he=>by
  have h1:=Zk0 hgap e he;have h2:=Zu4 hgap l.length e he;omega
 have hA0:Zas r l 0=r:=by simp[Zas]
 refine kE Tryz.func113 ?_;intro hat B X w0;refine kw1 (kow (Nat.beq 20) (b:=true)) (kc1 hrn) kc0 ?_;refine Zao _ (Zch 5 1 905 1 rfl rfl rfl) ?_;refine Zao _ (Zch 5 2 901 2 rfl rfl rfl) ?_;refine Zao _ (Zch 5 3 902 1 rfl rfl rfl) ?_;refine Zaf (λ(e:Nat)=>e<=l.length) (λ e=>[(1, .d (Zab r)),(2, .ptr 2 0 0 0),(4, .ptr 4 0 0 0),(5, .ptr 5 0 0 0),(6, .ref 904 1 0 (Zas r l e).length (Zas r l e).length),(7, .int e)]) (λ e=>[(2, .cells [.int n, .d (Zaj l)]),(4, .cells [.int 0, .nilS, .nilS, .nilS]),(5, .cells [.int n, .ref 905 1 0 0 0, .ref 901 2 0 (ZaV r l e).length (ZaV r l e).length, .ref 902 1 0 (Za8 r l e).length (Za8 r l e).length]),(905, .row 1 []),(901, .row 2 ((ZaV r l e).map Za0)),(902, .row 1 ((Za8 r l e).map Zab)),(904, .row 1 ((Zas r l e).map D.int))]) (λ e=>l.length-e) 0 ?_ ?_ ?_
 ·exact uH _
 ·exact kN (kc2 hA0 hrn) [(904,22)]
 ·intro e he;rcases uE e l.length with hel|hel
  ·obtain⟨a,ha⟩:=Zac hel;have hai:=g4 e a ha;have hga:=hgap e a ha;have e1:=ZdK (r:=r) (v:=a.1) hai.1 (by omega);have e2:=ZdK (r:=r) (v:=a.2) hai.2.2.1 (by omega);have f1:=h5 a.1.toNat;have f2:=h5 a.2.toNat;rw[show((a.1.toNat:Nat):Int)=a.1 by omega]at f1;rw[show((a.2.toNat:Nat):Int)=a.2 by omega]at f2;have hgn:(ZaI r a:Int)=at0 r a.2-at0 r a.1-1:=by rw[ZaI];omega
   have hall:=Ziz (r:=r) ha;have hal:=allR_len e he;have hafl:=Zk6 hgap e he;generalize hA:Zas r l e=all at hal hall hafl
   try dsimp only
   try rw[hA]
   refine kw1 (kow (Nat.beq 37) (b:=true)) (kc3 ha e1 hrn) kc0 ?_;refine Zaf (λ(u:Nat)=>u<=ZaI r a) (λ u=>[(1, .d (Zab r)),(2, .ptr 2 0 0 0),(4, .ptr 4 0 0 0),(5, .ptr 5 0 0 0),(6, .ref 904 1 0 (all.length+u) (all.length+u)),(7, .int e),(8, .ptr 8 0 0 0),(9, .ref 903 1 0 (u+1) (u+1)),(10, .int (at0 r a.1+1+u))]) (λ u=>[(2, .cells [.int n, .d (Zaj l)]),(4, .cells [.int 0, .nilS, .nilS, .nilS]),(8, .cells [.int a.1, .int a.2]),(5, .cells [.int n, .ref 905 1 0 0 0, .ref 901 2 0 (ZaV r l e).length (ZaV r l e).length, .ref 902 1 0 (Za8 r l e).length (Za8 r l e).length]),(905, .row 1 []),(901, .row 2 ((ZaV r l e).map Za0)),(902, .row 1 ((Za8 r l e).map Zab)),(904, .row 1 ((all++Zan r a u).map D.int)),(903, .row 1 ((Zcw all.length a u).map D.int))]) (λ u=>ZaI r a-u) 0 ?_ ?_ ?_
   ·exact uH _
   ·exact kN (kc5 @Zcw.eq_1 @Zan.eq_1 @jG @yT.{0} hA) [(903,37)]
   ·intro u hu;have hcl:=Zgn all.length a u;have hnl:=Zhd r a u;have htk:((Zcw all.length a u).map D.int).take (u+1)=(Zcw all.length a u).map D.int:=uD (by rw[uC,hcl];exact uJ _);have hta:((all++Zan r a u).map D.int).take (all.length+u)=(all++Zan r a u).map D.int:=uD (by rw[uC,uG,hnl];exact uJ _);rcases uE u (ZaI r a)with hul|hul
    ·have hcs:=ZqH all.length a u;have hns:=Zod r a u;have hap:all++Zan r a (u+1)=(all++Zan r a u)++[at0 r a.1+1+u]:=by rw[hns,qK]
     have hlu:(all++Zan r a u).length=all.length+u:=by rw[uG,hnl]
     generalize all++Zan r a u=G at*;generalize Zcw all.length a u=c at*;refine kw1 kO (kc6 e2 hrn hcl htk hta hlu) kc0 ?_;refine⟨u+1,?_,eL [(903,57),(904,61)] _ _ (by refine⟨?_,?_⟩<;>(repeat' first|exact fmn|refine fmc ⟨(by first|rfl|(simp(disch:=omega) only[go_sem,simprocAttr,inL,hcs,hap,uQ,qQ,gV,<-zJ,uG,hcl,hlu];first|done|omega|(congr 1;done))),?_⟩);done),?_⟩
     ·omega
     ·omega
    ·have:u=ZaI r a:=by omega
     subst this;have hcd:ZaB r all.length a=Zcw all.length a (ZaI r a)++[a.2]:=rfl;have hcl2:=Zll r all.length a;refine kw1 kP (kc4 e2 hrn hcl htk) kc0 ?_;refine Zaf (λ(j:Nat)=>j<=ZaI r a+1) (λ j=>[(1, .d (Zab r)),(2, .ptr 2 0 0 0),(4, .ptr 4 0 0 0),(5, .ptr 5 0 0 0),(6, .ref 904 1 0 (all.length+ZaI r a) (all.length+ZaI r a)),(7, .int e),(8, .ptr 8 0 0 0),(9, .ref 903 1 0 (ZaI r a+2) (ZaI r a+2)),(11, .int ((j:Int)+1))]) (λ j=>[(2, .cells [.int n, .d (Zaj l)]),(4, .cells [.int 0, .nilS, .nilS, .nilS]),(8, .cells [.int a.1, .int a.2]),(5, .cells [.int n, .ref 905 1 0 0 0, .ref 901 2 0 (ZaV r l e++ZbV (ZaB r all.length a) j).length (ZaV r l e++ZbV (ZaB r all.length a) j).length, .ref 902 1 0 (Za8 r l e).length (Za8 r l e).length]),(905, .row 1 []),(901, .row 2 ((ZaV r l e++ZbV (ZaB r all.length a) j).map Za0)),(902, .row 1 ((Za8 r l e).map Zab)),(904, .row 1 ((all++Zan r a (ZaI r a)).map D.int)),(903, .row 1 ((ZaB r all.length a).map D.int))]) (λ j=>ZaI r a+1-j) 0 ?_ ?_ ?_
     ·exact uH _
     ·exact kN (kc5 hcd @uQ.{0,0} @ZbV.eq_1 @jG @yT.{0}) [(903,66)]
     ·intro j hj;have hpl:=Zox (ZaB r all.length a) j;rcases uE j (ZaI r a+1)with hjl|hjl
      ·have gc1:=ZaG (r:=ZaB r all.length a) (i:=j) (by omega);have gc2:=ZaG (r:=ZaB r all.length a) (i:=j+1) (by omega);have en:((j:Int)+1).toNat=j+1:=by omega
       have hps:=Ztl (ZaB r all.length a) j;have hpa:Za0 (Zhi (ZaB r all.length a) j)= .ag [.int (at0 (ZaB r all.length a) j), .int (at0 (ZaB r all.length a) ((j+1:Nat):Int))]:=rfl;have hap:ZaV r l e++ZbV (ZaB r all.length a) (j+1)=(ZaV r l e++ZbV (ZaB r all.length a) j)++[Zhi (ZaB r all.length a) j]:=by rw[hps,qK]
       have hal2:(ZaV r l e++ZbV (ZaB r all.length a) j).length<=2000:=by rw[uG];omega
       try dsimp only
       generalize ZaB r all.length a=c at*;generalize hG:ZaV r l e++ZbV c j=G at*;refine kw1 kO (kc6 gc1 gc2 en hcl2 @Cx @Zal) kc0 ?_;refine⟨j+1,?_,kN (kc8 hap @uQ.{0,0} @uG.{0} @yB.{0} @uY.{0} hpa @qQ @gV) [(901,86)],?_⟩
       ·omega
       ·omega
      ·have:j=ZaI r a+1:=by omega
       subst this;have hcf:Za8 r l (e+1)=Za8 r l e++[ZaB r all.length a]:=by rw[Za8,Za2,ZjH,ha,hA];rfl
       have haf:ZaV r l (e+1)=ZaV r l e++ZbV (ZaB r all.length a) (ZaI r a+1):=by rw[ZaV,Za2,ZiD,ha,hA];rfl
       have hcfl:=ZiN r l e he;have hnl:=Zhd r a (ZaI r a);have hcd2:((ZaB r all.length a).map D.int).take (ZaI r a+2)=(ZaB r all.length a).map D.int:=uD (by rw[uC,hcl2];exact uJ _);have hcft:((Za8 r l e).map Zab).take e=(Za8 r l e).map Zab:=uD (by rw[uC,hcfl];exact uJ _);refine Zao _ (Zc5 903 1 ((ZaB r all.length a).map D.int) rfl (ZcW _ rfl) (by decide)) ?_;refine kw1 kO (kc5 hcl2 @uC.{0,0} hcd2 hcfl @Zal) kc0 ?_;refine⟨e+1,?_,kN (kc8 hcf haf hall @uQ.{0,0} @uG.{0} @yB.{0} @uY.{0} (kc7 hnl @qQ @gV hcl2 hcd2 hcfl hcft)) [(902,92)],?_⟩
       ·omega
       ·omega
  ·have:e=l.length:=by omega
   subst this;have hal:=allR_len l.length (uJ _);have hmd:Zfa (n,l) r=((n:Int),if(n:Int)=0 then[]else(List.range (ZcN r (r.length-1)+1).toNat).map λ k=>Za6 (Zas r l l.length) k,ZaV r l l.length,Za8 r l l.length):=rfl;rw[hmd];generalize Zas r l l.length=A at hal|-;generalize ZaV r l l.length=E;generalize Za8 r l l.length=C;refine kw1 kO kc0 kc0 ?_;refine Zaf (λ(v:Nat)=>v<=n) (λ v=>[(1, .d (Zab r)),(2, .ptr 2 0 0 0),(4, .ptr 4 0 0 0),(5, .ptr 5 0 0 0),(6, .ref 904 1 0 A.length A.length),(12, .int (hiN r v)),(13, .int v)]) (λ v=>[(2, .cells [.int n, .d (Zaj l)]),(4, .cells [.int 0, .nilS, .nilS, .nilS]),(5, .cells [.int n, .ref 905 1 0 0 0, .ref 901 2 0 E.length E.length, .ref 902 1 0 C.length C.length]),(905, .row 1 ([])),(901, .row 2 (E.map Za0)),(902, .row 1 (C.map Zab)),(904, .row 1 (A.map D.int))]) (λ v=>n-v) 0 ?_ ?_ ?_
   ·exact uH _
   ·exact kN (kc1 @hiN.eq_1) []
   ·intro v hv;rcases uE v n with hvn|hvn
    ·have gv:=ZaG (r:=r) (i:=v) (by omega);refine kw1 kO (kc2 gv hrn) kc0 ?_;refine⟨v+1,?_,kN (kc2 @hiN.eq_1 @ite_max) [],?_⟩
     ·omega
     ·omega
    ·have:n=v:=by omega
     subst this;obtain⟨H,hH⟩:∃H:Nat,hiN r n+1=H/\H<=256/\(if(n:Int)=0 then[]else(List.range (ZcN r (r.length-1)+1).toNat).map λ k=>Za6 A k)=ZbH A H:=by
      rcases qM n with h0|h0
      ·refine⟨0,?_,by omega,?_⟩
       ·rw[h0,hiN];rfl
       ·rw[if_pos (by omega)];rfl
      ·obtain⟨m,rfl⟩:∃m,n=m+1:=⟨n-1,by omega⟩;have e1:=ZrN (λ v=>(h5 v).1) m;have e2:=ZlJ (λ j=>(h5 j).2) m;have e3:=Zi4 r m 0 (by omega);have e4:=h5 0;refine⟨(ZcN r m+1).toNat,by omega,by omega,?_⟩;rw[if_neg (by omega),hrn,Am];rfl
     obtain⟨hH,hH2,hH3⟩:=hH;rw[hH3];generalize hiN r n=hi at hH|-;refine kw1 kO kc0 kc0 ?_;refine Zaf (λ(k:Nat)=>k<=H) (λ k=>[(1, .d (Zab r)),(2, .ptr 2 0 0 0),(4, .ptr 4 0 0 0),(5, .ptr 5 0 0 0),(6, .ref 904 1 0 A.length A.length),(12, .int hi),(14, .int k)]) (λ k=>[(2, .cells [.int n, .d (Zaj l)]),(4, .cells [.int 0, .nilS, .nilS, .nilS]),(5, .cells [.int n, .ref 905 1 0 k k, .ref 901 2 0 E.length E.length, .ref 902 1 0 C.length C.length]),(905, .row 1 ((ZbH A k).map Zab)),(901, .row 2 (E.map Za0)),(902, .row 1 (C.map Zab)),(904, .row 1 (A.map D.int))]) (λ k=>H-k) 0 ?_ ?_ ?_
     ·exact uH _
     ·exact kN (kc3 @ZbH.eq_1 @jG @yH.{0,0}) []
     ·intro k hk;rcases uE k H with hkH|hkH
      ·have hlk:=ZnX A k;refine kw1 kO kc0 kc0 ?_;refine Zao _ (Zcy 15 906 1 rfl rfl) ?_;refine Zaf (λ(i:Nat)=>i<=A.length) (λ i=>[(1, .d (Zab r)),(2, .ptr 2 0 0 0),(4, .ptr 4 0 0 0),(5, .ptr 5 0 0 0),(6, .ref 904 1 0 A.length A.length),(12, .int hi),(14, .int k),(15, .ref 906 1 0 (Za6 (A.take i) k).length (Za6 (A.take i) k).length),(16, .int i)]) (λ i=>[(2, .cells [.int n, .d (Zaj l)]),(4, .cells [.int 0, .nilS, .nilS, .nilS]),(5, .cells [.int n, .ref 905 1 0 k k, .ref 901 2 0 E.length E.length, .ref 902 1 0 C.length C.length]),(905, .row 1 ((ZbH A k).map Zab)),(901, .row 2 (E.map Za0)),(902, .row 1 (C.map Zab)),(904, .row 1 (A.map D.int)),(906, .row 1 ((Za6 (A.take i) k).map D.int))]) (λ i=>A.length-i) 0 ?_ ?_ ?_
       ·exact uH _
       ·exact kN (kc6 @Za6.eq_1 @yX.{0} @jG @uY.{0} @jX.{0} @yH.{0,0}) []
       ·intro i hi2;have hll:=Zj4 (A.take i) k;rw[yJ]at hll;rcases uE i A.length with hiA|hiA
        ·have gi:=ZaG hiA;have hst:Za6 (A.take (i+1)) k=if at0 A i=k then Za6 (A.take i) k++[(i:Int)]else Za6 (A.take i) k:=by
          rw[ZaA gi,ZnW,yJ,jE (by omega)]
         generalize Za6 (A.take i) k=L at hst hll|-;by_cases hx:at0 A i=k
         ·rw[if_pos hx]at hst;refine kw1 kO (kc3 gi hx @Zal) kc0 ?_;refine⟨i+1,?_,kN (kc5 hst @uQ.{0,0} @uG.{0} @yB.{0} @uY.{0}) [(906,126)],?_⟩
          ·omega
          ·omega
         ·rw[if_neg hx]at hst;refine kw1 kO (kc2 gi @Zal) kc0 ?_;refine⟨i+1,?_,kN (kc1 hst) [],?_⟩
          ·omega
          ·omega
        ·have:i=A.length:=by omega
         subst this;have hAA:A.take A.length=A:=yE;rw[hAA]at hll;have hls:=ZzP A k;have hlt:((ZbH A k).map Zab).take k=(ZbH A k).map Zab:=uD (by rw[uC,hlk];exact uJ _)
         try dsimp only
         rw[hAA];refine Zao _ (Zc5 906 1 ((Za6 A k).map D.int) rfl (ZcW _ rfl) (by decide)) ?_;refine kw1 kO (kc3 @uC.{0,0} hlk @Zal) kc0 ?_;refine⟨k+1,?_,kN (kc8 hls @uQ.{0,0} @uG.{0} @yB.{0} @uY.{0} hlk hlt (kc2 @qQ @gV)) [(905,131)],?_⟩
         ·omega
         ·omega
      ·have:k=H:=by omega
       subst this;have hlk:=ZnX A k;refine kw1 kO kc0 kc0 ?_;have hlt:((ZbH A k).map Zab).take k=(ZbH A k).map Zab:=uD (by rw[uC,hlk];exact uJ _);refine⟨_,_,_,_,rfl,?_⟩;simp(disch:=omega) only[go_sem,simprocAttr,toD,hlk,hlt,Zal]
theorem ZCf (g:Gr)(r:List Int)(h:gOk g=false\/(r.length:Int)≠g.1):Zaa Tryz.prog 55 [gD g,Zab r] (.tup [lvD lv0, .int 1]):=by
 have hv:=Zkv g;rcases h1:gOk g with _|_<;>rw[h1]at hv
 ·refine kE Tryz.func55 ?_;intro hat B X w0;refine kw1 kO kc0 (kc1 hv) ?_
  all_goals
   refine⟨_,rfl,⟨_,_,_,_,rfl,?_⟩,Zai ?_,trivial⟩
   ·simp(disch:=omega) only[go_sem,simprocAttr,toD];rfl
   ·rfl
 ·have h2:(r.length:Int)≠g.1:=by
   rcases h with h|h
   ·rw[h1]at h;exact absurd h (by decide)
   ·exact h
  refine kE Tryz.func55 ?_;intro hat B X w0;have hl:=ZaJ 1 hat rfl;rw[uC]at hl;refine kw1 kO (kc1 h2) (kc1 hv) ?_
  all_goals
   refine⟨_,rfl,⟨_,_,_,_,rfl,?_⟩,Zai ?_,trivial⟩
   ·simp(disch:=omega) only[go_sem,simprocAttr,toD];rfl
   ·rfl
theorem ZCg (g:Gr)(r:List Int)(h1:gOk g=true)(h2:(r.length:Int)=g.1):Zaa Tryz.prog 55 [gD g,Zab r] (.tup [lvD (Zay g r).1, .int (Zay g r).2]):=by
 have hv:=Zkv g;obtain⟨g1,g2,g3,g4⟩:=ZjU h1;have hbf:Zay g r=if r.any Zdo then(lv0,1)else if g.2.any ZdU then(lv0,8)else if g.2.any (ZcY r)then(lv0,3)else if 512<g.1+Zba r g.2 g.2.length then(lv0,2)else(Zfa g r,0):=by
  rw[Zay,Zeh,h1];cases r.any Zdo<;>simp[h2]
 rw[h1]at hv;obtain⟨m,l⟩:=g;dsimp only at g1 g2 g3 g4 h2 hbf;obtain⟨n,rfl⟩:∃n:Nat,m=n:=⟨m.toNat,by omega⟩;have hrn:r.length=n:=by omega
 refine kE Tryz.func55 ?_;intro hat B X w0;refine kw1 kO (kc1 hrn) (kc1 hv) ?_;refine Zaf (λ(k:Nat)=>k<=n/\∀(j:Nat) y,j<k->r[j]? =some y->Zdo y=false) (λ k=>[(1, .d (Zab r)),(2, .ptr 2 0 0 0),(4, .ptr 4 0 0 0),(6, .int k)]) (λ k=>[(2, .cells [.int n, .d (Zaj l)]),(4, .cells [.int 0, .nilS, .nilS, .nilS])]) (λ k=>n-k) 0 ?_ ?_ ?_
 ·exact⟨uH _,λ j y h=>by omega⟩
 ·exact kN kc0 []
 ·rintro k ⟨hk,hinv⟩;rcases uE k n with hlt|hge
  ·have gk:=ZaG (r:=r) (i:=k) (by omega);rcases hrb:Zdo (at0 r k)with _|_
   ·have hb:0<=at0 r k/\at0 r k<=255:=by
     simp only[Zdo,qC]at hrb;omega
    refine kw1 kO (kc2 gk hrn) kc0 ?_;refine⟨k+1,?_,kN kc0 [],?_⟩
    ·exact⟨by omega,Zbr hinv gk hrb⟩
    ·omega
   ·have hany:r.any Zdo=true:=ZcE gk hrb;rw[hbf,if_pos hany];simp only[Zdo,uF]at hrb;refine kw kO (kc2 gk hrn) kc0 ?_
    repeat' first|exact True.intro|refine Bn.mk ?_ ?_|intro hc
    all_goals
     refine⟨_,rfl,⟨_,_,_,_,rfl,?_⟩,Zai ?_,trivial⟩
     ·simp(disch:=omega) only[go_sem,simprocAttr,toD];rfl
     ·rfl
  ·have:n=k:=by omega
   subst this;have hany:r.any Zdo=false:=Zc2 λ j y hj=>hinv j y (by omega)
   have hrk:Zeh ((n:Int),l) r=true:=by simp[Zeh,h1,hrn,hany]
   obtain⟨_,_,_,h5⟩:=Zl4 hrk;have hsum:=Zpe (r:=r) (l:=l) h5 (λ k a ha=>by have:=g4 k a ha;omega);rw[hany]at hbf;simp only[qD,jA]at hbf;refine kw1 kO kc0 kc0 ?_;refine Zaf (λ(k:Nat)=>k<=l.length/\∀(j:Nat) y,j<k->l[j]? =some y->ZdU y=false) (λ k=>[(1, .d (Zab r)),(2, .ptr 2 0 0 0),(4, .ptr 4 0 0 0),(7, .int k)]) (λ k=>[(2, .cells [.int n, .d (Zaj l)]),(4, .cells [.int 0, .nilS, .nilS, .nilS])]) (λ k=>l.length-k) 0 ?_ ?_ ?_
   ·exact⟨uH _,λ j y h=>by omega⟩
   ·exact kN kc0 []
   ·rintro k ⟨hk,hinv⟩;rcases uE k l.length with hlt|hge
    ·obtain⟨a,ha⟩:=Zac hlt;rcases hlf:ZdU a with _|_
     ·have hne:¬a.1=a.2:=by simpa[ZdU]using hlf
      refine kw1 kO (kc1 ha) kc0 ?_;refine⟨k+1,?_,kN kc0 [],?_⟩
      ·exact⟨by omega,Zbr hinv ha hlf⟩
      ·omega
     ·have hany:l.any ZdU=true:=ZcE ha hlf;have hne:a.1=a.2:=by simpa[ZdU]using hlf
      rw[hbf,if_pos hany];refine kw1 kO (kc1 ha) kc0 ?_;refine⟨_,rfl,⟨_,_,_,_,rfl,?_⟩,Zai ?_,trivial⟩
      ·simp(disch:=omega) only[go_sem,simprocAttr,toD];rfl
      ·rfl
    ·have:k=l.length:=by omega
     subst this;have hany:l.any ZdU=false:=Zc2 λ j y hj=>hinv j y (by omega)
     rw[hany]at hbf;simp only[qD,jA]at hbf;refine kw1 kO kc0 kc0 ?_;refine Zaf (λ(k:Nat)=>k<=l.length/\∀(j:Nat) y,j<k->l[j]? =some y->ZcY r y=false) (λ k=>[(1, .d (Zab r)),(2, .ptr 2 0 0 0),(4, .ptr 4 0 0 0),(8, .int (n+Zba r l k)),(9, .int k)]) (λ k=>[(2, .cells [.int n, .d (Zaj l)]),(4, .cells [.int 0, .nilS, .nilS, .nilS])]) (λ k=>l.length-k) 0 ?_ ?_ ?_
     ·exact⟨uH _,λ j y h=>by omega⟩
     ·exact kN (kc2 @Zba.eq_1 @jW) []
     ·rintro k ⟨hk,hinv⟩;have hsk:=hsum k;rcases uE k l.length with hlt|hge
      ·obtain⟨a,ha⟩:=Zac hlt;have hai:=g4 k a ha;have e1:=ZdK (r:=r) (v:=a.1) hai.1 (by omega);have e2:=ZdK (r:=r) (v:=a.2) hai.2.2.1 (by omega);have f1:=h5 a.1.toNat;have f2:=h5 a.2.toNat;rw[show((a.1.toNat:Nat):Int)=a.1 by omega]at f1;rw[show((a.2.toNat:Nat):Int)=a.2 by omega]at f2;have hss:Zba r l (k+1)=Zba r l k+(at0 r a.2-at0 r a.1-1):=by rw[Zba,ha]
       rcases hup:ZcY r a with _|_
       ·have hup2:=hup;rw[ZcY,qC]at hup2;refine kw1 kO (kc4 ha e1 e2 hrn) kc0 ?_;refine⟨k+1,?_,kN (kc2 hss @zJ) [],?_⟩
        ·exact⟨by omega,Zbr hinv ha hup⟩
        ·omega
       ·have hany:l.any (ZcY r)=true:=ZcE ha hup;rw[ZcY,uF]at hup;rw[hbf,if_pos hany];refine kw1 kO (kc4 ha e1 e2 hrn) kc0 ?_;refine⟨_,rfl,⟨_,_,_,_,rfl,?_⟩,Zai ?_,trivial⟩
        ·simp(disch:=omega) only[go_sem,simprocAttr,toD];rfl
        ·rfl
      ·have:k=l.length:=by omega
       subst this;have hany:l.any (ZcY r)=false:=Zc2 λ j y hj=>hinv j y (by omega)
       rw[hbf,if_neg (by rw[hany];decide)];by_cases hbig:512<(n:Int)+Zba r l l.length
       ·rw[if_pos hbig];refine kw1 kO kc0 kc0 ?_;refine⟨_,rfl,⟨_,_,_,_,rfl,?_⟩,Zai ?_,trivial⟩
        ·simp(disch:=omega) only[go_sem,simprocAttr,toD];rfl
        ·rfl
       ·rw[if_neg hbig];have hgap:∀(k:Nat) a,l[k]? =some a->0<=at0 r a.2-at0 r a.1-1:=λ k a ha=>by
         have:=yS.1 hany a (uA ha);rw[ZcY,uF]at this;omega
        have hm:=ZAg n l r hrn (by omega) g3 g4 h5 hgap (by omega);refine kw1 kO kc0 (kc1 hm) ?_;refine⟨_,rfl,⟨_,_,_,_,rfl,?_⟩,Zai ?_,trivial⟩
        ·simp(disch:=omega) only[go_sem,simprocAttr,toD]
        ·rfl
theorem ZCh (g:Gr)(r:List Int):Zaa Tryz.prog 55 [gD g,Zab r] (.tup [lvD (Zay g r).1, .int (Zay g r).2]):=by
 by_cases h:gOk g=true/\(r.length:Int)=g.1
 ·exact ZCg g r h.1 h.2
 ·have hr:Zeh g r=false:=by
   rw[Zeh];rcases h1:gOk g with _|_
   ·simp
   ·have h2:¬(r.length:Int)=g.1:=λ h2=>h ⟨h1,h2⟩
    simp[h2]
  have e:Zay g r=(lv0,1):=by rw[Zay,if_pos hr]
  rw[e];refine ZCf g r ?_;rcases h1:gOk g with _|_
  ·exact .inl rfl
  ·exact .inr λ h2=>h ⟨h1,h2⟩
theorem ZDn (l m:List Int):Zaa Tryz.prog 140 [Zab l,Zab m] (.bool (decide (l=m))):=by
 refine kE Tryz.func140 ?_;intro hat B X w0;have hl:=ZaJ 0 hat rfl;have hm:=ZaJ 1 hat rfl;rw[uC]at hl hm;by_cases hlm:l.length=m.length
 ·refine kw1 kO kc0 kc0 ?_;refine Zaf (λ(k:Nat)=>k<=l.length/\l.take k=m.take k) (λ k=>[(0, .d (Zab l)),(1, .d (Zab m)),(5, .int k)]) (λ k=>[]) (λ k=>l.length-k) 0 ?_ ?_ ?_
  ·exact⟨uH _,rfl⟩
  ·exact kN kc0 []
  ·rintro k ⟨hk,hinv⟩;rcases uE k l.length with hlt|hge
   ·obtain⟨p,hp⟩:=Zac hlt;obtain⟨q,hq⟩:=Zac (hlm▸hlt);refine kw kO (kc2 hp hq) kc0 ?_
    repeat' first|exact True.intro|refine Bn.mk ?_ ?_|intro hc
    ·refine Zah ?_;rw[uV (ZgO hp hq hc)]
    ·refine⟨k+1,?_,eL [] _ _ (by refine⟨?_,?_⟩<;>(repeat' first|exact fmn|refine fmc ⟨(by first|rfl|(simp(disch:=omega) only[go_sem,simprocAttr,inL];first|done|omega|(congr 1;done))),?_⟩);done),?_⟩
     ·exact⟨by omega,by rw[ZaA hp,ZaA hq,hinv,hc]⟩
     ·omega
   ·refine kw1 kO kc0 kc0 ?_;refine Zah ?_;rw[uD hge,uD (by omega)]at hinv;simp[hinv]
 ·refine kw1 kO kc0 kc0 ?_;refine Zah ?_;rw[uV];rintro rfl;exact hlm rfl
theorem Zut (l m:List (List Int)):Zaa Tryz.prog 83 [Zae l,Zae m] (.bool (decide (l=m))):=by
 refine kE Tryz.func83 ?_;intro hat B X w0;have hl:=ZaJ 0 hat rfl;have hm:=ZaJ 1 hat rfl;rw[uC]at hl hm;by_cases hlm:l.length=m.length
 ·refine kw1 kO kc0 kc0 ?_;refine Zaf (λ(k:Nat)=>k<=l.length/\l.take k=m.take k) (λ k=>[(0, .d (Zae l)),(1, .d (Zae m)),(5, .int k)]) (λ k=>[]) (λ k=>l.length-k) 0 ?_ ?_ ?_
  ·exact⟨uH _,rfl⟩
  ·exact kN kc0 []
  ·rintro k ⟨hk,hinv⟩;rcases uE k l.length with hlt|hge
   ·obtain⟨p,hp⟩:=Zac hlt;obtain⟨q,hq⟩:=Zac (hlm▸hlt);have he:=ZDn p q;by_cases hpq:p=q
    ·rw[yD hpq]at he;refine kw1 kO (kc2 hp hq) (kc1 he) ?_;refine⟨k+1,?_,kN kc0 [],?_⟩
     ·exact⟨by omega,by rw[ZaA hp,ZaA hq,hinv,hpq]⟩
     ·omega
    ·rw[uV hpq]at he;refine kw1 kO (kc2 hp hq) (kc1 he) ?_;refine Zah ?_;rw[uV (ZgO hp hq hpq)]
   ·refine kw1 kO kc0 kc0 ?_;refine Zah ?_;rw[uD hge,uD (by omega)]at hinv;simp[hinv]
 ·refine kw1 kO kc0 kc0 ?_;refine Zah ?_;rw[uV];rintro rfl;exact hlm rfl
theorem Zus (l m:List (List Int)):Zaa Tryz.prog 171 [Zae l,Zae m] (.bool (decide (l=m))):=by
 have h:=Zyj l m;refine kE Tryz.func171 ?_;intro hat B X w0;refine kw1 kO kc0 (kc1 h) ?_;exact Zah rfl
def ZfA (a b:Lv):Bool:=decide (a.1=b.1)&&decide (a.2.1=b.2.1)&&decide (a.2.2.1=b.2.2.1)&&decide (a.2.2.2=b.2.2.2)
theorem Zma {a b:Lv}:ZfA a b=true↔a=b:=by
 obtain⟨a1,a2,a3,a4⟩:=a;obtain⟨b1,b2,b3,b4⟩:=b;simp[ZfA,Prod.ext_iff,and_assoc]
theorem Zv6 (a b:Lv):Zaa Tryz.prog 107 [lvD a,lvD b] (.bool (ZfA a b)):=by
 have h1:=Zus a.2.1 b.2.1;have h2:=Zyk a.2.2.1 b.2.2.1;have h3:=Zus a.2.2.2 b.2.2.2;rw[ZfA];by_cases e:a.1=b.1
 ·rw[yD e];rcases e1:decide (a.2.1=b.2.1)with _|_<;>rw[e1]at h1<;>rcases e2:decide (a.2.2.1=b.2.2.1)with _|_<;>rw[e2]at h2<;>rcases e3:decide (a.2.2.2=b.2.2.2)with _|_<;>rw[e3]at h3
  all_goals
   refine kE Tryz.func107 ?_;intro hat B X w0;refine kw1 kO (kc1 e) (kc3 h1 h2 h3) ?_;exact Zah rfl
 ·rw[uV e];refine kE Tryz.func107 ?_;intro hat B X w0;refine kw1 kO (kc1 e) (kc3 h1 h2 h3) ?_;exact Zah rfl
theorem ZCl (a b:Lv):Zaa Tryz.prog 35 [lvD a,lvD b] (.bool (ZfA a b)):=by
 have h1:=Zut a.2.1 b.2.1;have h3:=Zut a.2.2.2 b.2.2.2;obtain⟨a1,a2,a3,a4⟩:=a;obtain⟨b1,b2,b3,b4⟩:=b;dsimp only[ZfA]at*;have fl:∀x:Bool,x=false->Zaa Tryz.prog 35 [lvD (a1,a2,a3,a4),lvD (b1,b2,b3,b4)] (.bool false)->Zaa Tryz.prog 35 [lvD (a1,a2,a3,a4),lvD (b1,b2,b3,b4)] (.bool x):=λ x hx h=>hx▸h
 by_cases e:a1=b1/\a3.length=b3.length
 ·obtain⟨rfl,e2⟩:=e;rcases e1:decide (a2=b2)with _|_
  ·rw[e1]at h1;refine fl _ (by simp) ?_;refine kE Tryz.func35 ?_;intro hat B X w0;have hla:=Zcf 0 2 hat rfl rfl;have hlb:=Zcf 1 2 hat rfl rfl;rw[uC]at hla hlb;dsimp only at hla hlb;refine kw1 kO (kc1 e2) (kc2 h1 h3) ?_;exact Zah rfl
  ·rw[e1]at h1;rcases e4:decide (a4=b4)with _|_
   ·rw[e4]at h3;refine fl _ (by simp) ?_;refine kE Tryz.func35 ?_;intro hat B X w0;have hla:=Zcf 0 2 hat rfl rfl;have hlb:=Zcf 1 2 hat rfl rfl;rw[uC]at hla hlb;dsimp only at hla hlb;refine kw1 kO (kc1 e2) (kc2 h1 h3) ?_;exact Zah rfl
   ·rw[e4]at h3;have er:(decide (a1=a1)&&true&&decide (a3=b3)&&true)=decide (a3=b3):=by simp
    rw[er];refine kE Tryz.func35 ?_;intro hat B X w0;have hla:=Zcf 0 2 hat rfl rfl;have hlb:=Zcf 1 2 hat rfl rfl;rw[uC]at hla hlb;dsimp only at hla hlb;refine kw1 kO (kc1 e2) (kc2 h1 h3) ?_;refine Zaf (λ(k:Nat)=>k<=a3.length/\a3.take k=b3.take k) (λ k=>[(2, .ptr 2 0 0 0),(3, .ptr 3 0 0 0),(5, .int k)]) (λ k=>[(2, .cells [.int a1, .d (Zae a2), .d (Zaj a3), .d (Zae a4)]),(3, .cells [.int a1, .d (Zae b2), .d (Zaj b3), .d (Zae b4)])]) (λ k=>a3.length-k) 0 ?_ ?_ ?_
    ·exact⟨uH _,rfl⟩
    ·exact kN kc0 []
    ·rintro k ⟨hk,hinv⟩;rcases uE k a3.length with hlt|hge
     ·obtain⟨p,hp⟩:=Zac hlt;obtain⟨q,hq⟩:=Zac (e2▸hlt);refine kw kO (kc3 hp hq @Zp5) kc0 ?_
      repeat' first|exact True.intro|refine Bn.mk ?_ ?_|intro hc
      ·refine Zah ?_;rw[uV (ZgO hp hq hc)]
      ·refine⟨k+1,?_,eL [] _ _ (by refine⟨?_,?_⟩<;>(repeat' first|exact fmn|refine fmc ⟨(by first|rfl|(simp(disch:=omega) only[go_sem,simprocAttr,inL];first|done|omega|(congr 1;done))),?_⟩);done),?_⟩
       ·exact⟨by omega,by rw[ZaA hp,ZaA hq,hinv,hc]⟩
       ·omega
     ·refine kw1 kO kc0 kc0 ?_;refine Zah ?_;rw[uD hge,uD (by omega)]at hinv;simp[hinv]
 ·refine fl _ ?_ ?_
  ·rcases gZ (a1=b1)with h|h
   ·have h2:¬a3=b3:=λ h2=>e ⟨h,by rw[h2]⟩
    simp[h2]
   ·simp[h]
  ·refine kE Tryz.func35 ?_;intro hat B X w0;have hla:=Zcf 0 2 hat rfl rfl;have hlb:=Zcf 1 2 hat rfl rfl;rw[uC]at hla hlb;dsimp only at hla hlb;by_cases h:a1=b1
   ·have h2:¬a3.length=b3.length:=λ h2=>e ⟨h,h2⟩
    refine kw1 kO (kc1 h) (kc2 h1 h3) ?_;exact Zah rfl
   ·refine kw1 kO (kc1 h) (kc2 h1 h3) ?_;exact Zah rfl
end Go.Proofs.YtjjbhjnpeenbkaaGreatDoor
