/- Levels built: the walk. -/
import Derived.Test.YtjjbhjnpeenbkaaGreatDoorA
set_option linter.unusedSimpArgs false
set_option linter.unusedVariables false
set_option maxHeartbeats 16000000
namespace Go.Proofs.YtjjbhjnpeenbkaaGreatDoor
open Go Go.PS Go.Proofs
set_option maxRecDepth 100000
attribute [local irreducible] Zad wpG Zaa Zah
theorem ZlD {g:Gr}{r:List Int}(h:Zea g r=true):gOk g=true/\(r.length:Int)=g.1/\r.any Zdj=false/\∀v:Nat,0<=at0 r v/\at0 r v<=255:=by
 simp only[Zea,uM,uF,yI]at h;obtain⟨⟨h1,h2⟩,h3⟩:=h;refine⟨h1,h2,h3,λ v=>?_⟩;rw[at0];cases hx:r[((v:Nat):Int).toNat]? with
 |none=>simp
 |some x=>
  simp only[qA]at h3;have:=h3 x (uA hx);simp only[Zdj,uF]at this;dsimp only[Option.getD_some];omega
theorem ZuG (g:Gr)(r:List Int)(h:Zea g r=false):Zaa Tryz.prog 49 [gD g,Zab r] (.tup [lvD lv0, .int 1]):=by
 have hv:=Zgg g;have hc:=Zk2 r 99 Zdj Zn8;rcases h1:gOk g with _|_<;>rw[h1]at hv
 ·refine kE Tryz.func49 ?_;intro hat B X w0;refine kw1 kO kc0 (kc1 hv) ?_
  all_goals
   refine⟨_,rfl,⟨_,_,_,_,rfl,?_⟩,Zaf ?_,trivial⟩
   ·simp(disch:=omega) only[go_sem,simprocAttr,toD];rfl
   ·rfl
 ·by_cases h2:(r.length:Int)=g.1
  ·have h3:r.any Zdj=true:=by simpa[Zea,h1,h2]using h
   rw[h3]at hc;refine kE Tryz.func49 ?_;intro hat B X w0;have hl:=ZaY 1 hat rfl;rw[uD]at hl;refine kw1 kO (kc1 h2) (kc2 hv hc) ?_
   all_goals
    refine⟨_,rfl,⟨_,_,_,_,rfl,?_⟩,Zaf ?_,trivial⟩
    ·simp(disch:=omega) only[go_sem,simprocAttr,toD];rfl
    ·rfl
  ·refine kE Tryz.func49 ?_;intro hat B X w0;have hl:=ZaY 1 hat rfl;rw[uD]at hl;refine kw1 kO (kc1 h2) (kc2 hv hc) ?_
   all_goals
    refine⟨_,rfl,⟨_,_,_,_,rfl,?_⟩,Zaf ?_,trivial⟩
    ·simp(disch:=omega) only[go_sem,simprocAttr,toD];rfl
    ·rfl
theorem ZuH (g:Gr)(r:List Int)(h:Zea g r=true)(h4:g.2.any ZdN=true):Zaa Tryz.prog 49 [gD g,Zab r] (.tup [lvD lv0, .int 8]):=by
 have hv:=Zgg g;have hc:=Zk2 r 99 Zdj Zn8;have hd:=Zp8 g.2 101 ZdN ZrO;obtain⟨h1,h2,h3,h5⟩:=ZlD h;rw[h1]at hv;rw[h3]at hc;rw[h4]at hd;refine kE Tryz.func49 ?_;intro hat B X w0;have hl:=ZaY 1 hat rfl;rw[uD]at hl;refine kw1 kO (kc1 h2) (kc3 hv hc hd) ?_
 all_goals
  refine⟨_,rfl,⟨_,_,_,_,rfl,?_⟩,Zaf ?_,trivial⟩
  ·simp(disch:=omega) only[go_sem,simprocAttr,toD];rfl
  ·rfl
theorem ZoE {r:List Int}{l:List Arc}(h5:∀v:Nat,0<=at0 r v/\at0 r v<=255)(hin:∀(k:Nat) a,l[k]? =some a->0<=a.1/\0<=a.2):∀k:Nat,-(256*(k:Int))<=Zbd r l k/\Zbd r l k<=256*(k:Int)
 |0=>by simp[Zbd]
 |k+1=>by
  have ih:=ZoE h5 hin k;cases ha:l[k]? with
  |none=>simp only[Zbd,ha];omega
  |some a=>
   have h1:=hin k a ha;have e1:=h5 a.1.toNat;have e2:=h5 a.2.toNat;rw[show((a.1.toNat:Nat):Int)=a.1 by omega]at e1;rw[show((a.2.toNat:Nat):Int)=a.2 by omega]at e2;have e:Zbd r l (k+1)=Zbd r l k+(at0 r a.2-at0 r a.1-1):=by rw[Zbd,ha]
   rw[e];generalize at0 r a.2=x at*;generalize at0 r a.1=y at*;omega
theorem ZkH {r:List Int}{l:List Arc}(hgap:∀(k:Nat) a,l[k]? =some a->0<=at0 r a.2-at0 r a.1-1):∀e,e<=l.length->((ZaE r l e).length:Int)=r.length+Zbd r l e:=by
 intro e
 induction e with
 |zero=>intro _;simp[ZaE,Zbd]
 |succ e ih=>
  intro he;obtain⟨a,ha⟩:=Zac (show e<l.length by omega);have h1:=hgap e a ha;have e1:Zbd r l (e+1)=Zbd r l e+(at0 r a.2-at0 r a.1-1):=by rw[Zbd,ha]
  rw[Zin ha,uH,Zg8,e1,ZaH];have:=ih (by omega);omega
theorem Zt1 {r:List Int}{l:List Arc}(hgap:∀(k:Nat) a,l[k]? =some a->0<=at0 r a.2-at0 r a.1-1):∀(m e:Nat),e<=m->Zbd r l e<=Zbd r l m:=by
 intro m
 induction m with
 |zero=>intro e he;rw[show e=0 by omega];exact qL _
 |succ m ih=>
  intro e he;rcases uC e (m+1)with h|h
  ·have:=ih e (by omega);cases ha:l[m]? with
   |none=>have e1:Zbd r l (m+1)=Zbd r l m+0:=by rw[Zbd,ha]
          omega
   |some a=>
    have e1:Zbd r l (m+1)=Zbd r l m+(at0 r a.2-at0 r a.1-1):=by rw[Zbd,ha]
    have:=hgap m a ha;omega
  ·rw[show e=m+1 by omega];exact qL _
theorem ZkN {r:List Int}{l:List Arc}(hgap:∀(k:Nat) a,l[k]? =some a->0<=at0 r a.2-at0 r a.1-1):∀e,e<=l.length->(ZaU r l e).length+r.length=(ZaE r l e).length+e:=by
 intro e
 induction e with
 |zero=>intro _;simp[ZaU,Za5,ZaE]
 |succ e ih=>
  intro he;obtain⟨a,ha⟩:=Zac (show e<l.length by omega);have:=ih (by omega);simp only[ZaU,Za5,uH]at this|-;rw[Zin ha,uH,Zg8,Zis,ha];dsimp only;rw[ZnV];omega
theorem Zk0 (r:List Int)(l:List Arc):∀e,e<=l.length->(Zbe r l e).length=e:=by
 intro e
 induction e with
 |zero=>intro _;simp[Zbe,Za5]
 |succ e ih=>
  intro he;obtain⟨a,ha⟩:=Zac (show e<l.length by omega);have:=ih (by omega);simp only[Zbe,Za5,uH]at this|-;rw[Zjp,ha];dsimp only[List.length_cons,List.length_nil];omega
theorem ZuI (g:Gr)(r:List Int)(h:Zea g r=true)(h4:g.2.any ZdN=false):Zaa Tryz.prog 49 [gD g,Zab r] (.tup [lvD (ZaP g r).1, .int (ZaP g r).2]):=by
 have hv:=Zgg g;have hc:=Zk2 r 99 Zdj Zn8;have hd:=Zp8 g.2 101 ZdN ZrO;obtain⟨h1,h2,h3,h5⟩:=ZlD h;have hbf:ZaP g r=if g.2.any (ZcV r)then(lv0,3)else if 512<g.1+Zbd r g.2 g.2.length then(lv0,2)else(ZeZ g r,0):=by
  rw[ZaP,h,h4];simp
 obtain⟨g1,g2,g3,g4⟩:=ZjB h1;rw[h1]at hv;rw[h3]at hc;rw[h4]at hd;obtain⟨m,l⟩:=g;dsimp only at g1 g2 g3 g4 h2 hd hbf;obtain⟨n,rfl⟩:∃n:Nat,m=n:=⟨m.toNat,by omega⟩;have hrn:r.length=n:=by omega
 have hsum:=ZoE (r:=r) (l:=l) h5 (λ k a ha=>by have:=g4 k a ha;omega);refine kE Tryz.func49 ?_;intro hat B X w0;refine kw1 kO (kc1 hrn) (kc3 hv hc hd) ?_;refine Zae (λ(k:Nat)=>k<=l.length/\∀(j:Nat) y,j<k->l[j]? =some y->ZcV r y=false) (λ k=>[(1, .d (Zab r)),(2, .ptr 2 0 0 0),(4, .ptr 4 0 0 0),(6, .int (n+Zbd r l k)),(41, .d (Zal l)),(42, .int l.length),(43, .int k)]) (λ k=>[(2, .cells [.int n, .d (Zal l)]),(4, .cells [.int 0, .nilS, .nilS, .nilS])]) (λ k=>l.length-k) 0 ?_ ?_ ?_
 ·exact⟨uG _,λ j y h=>by omega⟩
 ·exact kN (kc2 @Zbd.eq_1 @jW) []
 ·rintro k ⟨hk,hinv⟩;have hsk:=hsum k;rcases uC k l.length with hlt|hge
  ·obtain⟨a,ha⟩:=Zac hlt;have hai:=g4 k a ha;have e1:=Zdq (r:=r) (v:=a.1) hai.1 (by omega);have e2:=Zdq (r:=r) (v:=a.2) hai.2.2.1 (by omega);have f1:=h5 a.1.toNat;have f2:=h5 a.2.toNat;rw[show((a.1.toNat:Nat):Int)=a.1 by omega]at f1;rw[show((a.2.toNat:Nat):Int)=a.2 by omega]at f2;have hss:Zbd r l (k+1)=Zbd r l k+(at0 r a.2-at0 r a.1-1):=by rw[Zbd,ha]
   rcases hup:ZcV r a with _|_
   ·rw[ZcV,yZ]at hup;refine kw1 kO (kc4 ha e1 e2 hrn) kc0 ?_;refine⟨k+1,?_,kN (kc2 hss @zB) [],?_⟩
    ·exact⟨by omega,Zbj hinv ha (by rw[ZcV,yZ];exact hup)⟩
    ·omega
   ·have hany:l.any (ZcV r)=true:=Zb0 ha hup;rw[ZcV,uF]at hup;rw[hbf,if_pos hany];refine kw1 kO (kc4 ha e1 e2 hrn) kc0 ?_;refine⟨_,rfl,⟨_,_,_,_,rfl,?_⟩,Zaf ?_,trivial⟩
    ·simp(disch:=omega) only[go_sem,simprocAttr,toD];rfl
    ·rfl
  ·have:k=l.length:=by omega
   subst this;have hany:l.any (ZcV r)=false:=Zck λ j y hj=>hinv j y (by omega)
   rw[hbf,if_neg (by rw[hany];decide)];by_cases hbig:512<(n:Int)+Zbd r l l.length
   ·rw[if_pos hbig];refine kw1 kO kc0 kc0 ?_;refine⟨_,rfl,⟨_,_,_,_,rfl,?_⟩,Zaf ?_,trivial⟩
    ·simp(disch:=omega) only[go_sem,simprocAttr,toD];rfl
    ·rfl
   ·rw[if_neg hbig];have hgap:∀(k:Nat) a,l[k]? =some a->0<=at0 r a.2-at0 r a.1-1:=λ k a ha=>by
     have:=qA.1 hany a (uA ha);rw[ZcV,uF]at this;omega
    rcases qU n with hn0|hn0
    ·subst hn0;have hl0:l=[]:=by
      cases l with
      |nil=>rfl
      |cons a l=>have:=g4 0 a rfl;omega
     have hr0:r=[]:=jP.1 hrn;subst hl0 hr0;have hs0:Zbd [] [] 0=0:=rfl;refine kw1 kO (kc1 hs0) kc0 ?_;refine Zae (λ(i:Nat)=>True) (λ i=>[(1, .d (Zab [])),(2, .ptr 2 0 0 0),(4, .ptr 4 0 0 0),(10, .ptr 10 0 0 0),(80, .d (Zab [])),(81, .int 0),(82, .int i)]) (λ i=>[(2, .cells [.int 0, .d (Zal [])]),(4, .cells [.int 0, .nilS, .nilS, .nilS]),(10, .cells [.int 0, .nilS, .nilS, .nilS])]) (λ i=>0) 0 ?_ ?_ ?_
     ·trivial
     ·exact kN kc0 []
     ·intro i _;refine kw1 kO kc0 kc0 ?_;refine Zae (λ(e:Nat)=>True) (λ e=>[(1, .d (Zab [])),(2, .ptr 2 0 0 0),(4, .ptr 4 0 0 0),(10, .ptr 10 0 0 0),(13, .int 0),(103, .d (Zal [])),(104, .int 0),(105, .int e)]) (λ e=>[(2, .cells [.int 0, .d (Zal [])]),(4, .cells [.int 0, .nilS, .nilS, .nilS]),(10, .cells [.int 0, .nilS, .nilS, .nilS])]) (λ e=>0) 0 ?_ ?_ ?_
      ·trivial
      ·exact kN kc0 []
      ·intro e _;refine kw1 kO kc0 kc0 ?_;refine⟨_,rfl,⟨_,_,_,_,rfl,?_⟩,Zaf ?_,trivial⟩
       ·simp(disch:=omega) only[go_sem,simprocAttr,toD];rfl
       ·rfl
    ·have hmx:=ZuO r (by omega);obtain⟨N,hN⟩:∃N:Nat,ZcJ r (r.length-1)=(N:Int)-1:=⟨(ZcJ r (r.length-1)+1).toNat,by have:=ZiO r (r.length-1) 0 (by omega);have:=h5 0;omega⟩;have hNle:=Zll (λ j=>(h5 j).2) (r.length-1);have hNge:=ZiO r (r.length-1);have hN0:=hNge 0 (by omega);have h50:=h5 0;rw[hN]at hmx hNle hN0;have hrk:∀v:Nat,v<n->at0 r v<N:=λ v hv=>by have:=hNge v (by omega);omega
     have allR_len:∀e,e<=l.length->(ZaE r l e).length<=512:=λ e he=>by
      have h1:=ZkH hgap e he;have h2:=Zt1 hgap l.length e he;omega
     refine kw1 kO (kc1 @Int.sub_add_cancel) (kc1 hmx) ?_;refine Zaq _ (Zb9 10 2 901 2 rfl rfl rfl) ?_;refine Zaq _ (Zb9 10 3 902 1 rfl rfl rfl) ?_;refine Zaq _ (Zju 1 78 1 N rfl (λ i hi=>by simp(disch:=omega) only[go_sem,simprocAttr,ZjZ,Zek]) (by decide) (by decide)) ?_;refine Ze2 (λ(i:Nat)=>i<=n) (λ i=>[(1, .d (Zab r)),(2, .ptr 2 0 0 0),(4, .ptr 4 0 0 0),(10, .ptr 10 0 0 0),(80, .d (Zab r)),(81, .int n),(82, .int i)]) (λ i=>[⟨1,78,1,N,λ k=>(Za6 (r.take i) k).map D.int⟩]) (λ i=>[(2, .cells [.int n, .d (Zal l)]),(4, .cells [.int 0, .nilS, .nilS, .nilS]),(10, .cells [.int n, .ref 78 1 0 N N, .ref 901 2 0 0 0, .ref 902 1 0 0 0]),(901, .row 2 []),(902, .row 1 [])]) (λ i=>n-i) 0 ?_ ?_ ?_
     ·exact uG _
     ·refine kF (kc1 hrn) [] [] ?_;exact kT0 (kc3 @Za6.eq_1 @jT @kH.{0})
     ·intro i hi;rcases uC i n with hin|hin
      ·have gi:=at0_at (r:=r) (i:=i) (by omega);have f1:=h5 i;have f2:=hrk i hin;obtain⟨p,hp⟩:∃p:Nat,at0 r i=p:=⟨(at0 r i).toNat,by omega⟩;have hpN:p<N:=by omega
       have hstep:∀k:Nat,Za6 (r.take (i+1)) k=if k=p then Za6 (r.take i) k++[(i:Int)]else Za6 (r.take i) k:=λ k=>by
        rw[ZaA gi,Znu,hp,yF,jM (by omega)];by_cases c:k=p
        ·rw[if_pos (by omega),if_pos c]
        ·rw[if_neg (by omega),if_neg c]
       have hll:=ZjK (r.take i) p;rw[yF]at hll;rw[hp]at gi;refine Zaq _ (ZfT _ _ [2,4,10,78,901,902] 78 p 900 1 1 N (by first|rfl|(simp(disch:=omega) only[go_sem,simprocAttr];done)|(simp(disch:=omega) only[go_sem,simprocAttr];rfl)) (by first|(simp(disch:=omega) only[go_sem,simprocAttr];done)|(simp(disch:=omega) only[go_sem,simprocAttr];rfl)) (by first|(simp(disch:=omega) only[go_sem,simprocAttr];done)|(simp(disch:=omega) only[go_sem,simprocAttr];rfl)) (λ i hi hne=>by simp(disch:=omega) only[go_sem,simprocAttr,hne];(repeat' split)<;>exact .ref _ _ _ _ _ ⟨by simp(disch:=omega) only[go_sem,simprocAttr,hne],by simp(disch:=omega) only[go_sem,simprocAttr,hne]⟩) (by(repeat' first|refine ZfI ?_|exact ZfJ (ids:=[2,4,10,78,901,902]) rfl rfl (uY rfl)|refine ZfH ?_|refine ZfK ?_|refine ZfF ?_|refine ZfL ?_|refine ZfM ?_|refine ZfG (by dsimp only;omega) (by dsimp only;omega) (by omega) (by omega) (uY rfl) ?_);done) rfl rfl rfl) ?_;refine kw1 kO (kc4 gi hrn @yH.{0} @Zan) kc0 ?_;refine⟨i+1,?_,kF kc0 [(fid 1 p,97)] [] ?_,?_⟩
       ·omega
       ·exact kT1 (kc7 @hstep @uR.{0,0} @uH.{0} @uD.{0,0} @uX.{0} @uW.{0} @Zan) p
       ·omega
      ·have:i=n:=by omega
       subst this;have hti:r.take i=ZaE r l 0:=by rw[uE (by omega)];simp[ZaE]
       try dsimp only
       rw[hti];refine kw1 kP kc0 kc0 ?_;refine Ze2 (λ(e:Nat)=>e<=l.length) (λ e=>[(1, .d (Zab r)),(2, .ptr 2 0 0 0),(4, .ptr 4 0 0 0),(10, .ptr 10 0 0 0),(13, .int (ZaE r l e).length),(103, .d (Zal l)),(104, .int l.length),(105, .int e)]) (λ e=>[⟨1,78,1,N,λ k=>(Za6 (ZaE r l e) k).map D.int⟩]) (λ e=>[(2, .cells [.int i, .d (Zal l)]),(4, .cells [.int 0, .nilS, .nilS, .nilS]),(10, .cells [.int i, .ref 78 1 0 N N, .ref 901 2 0 (ZaU r l e).length (ZaU r l e).length, .ref 902 1 0 (Zbe r l e).length (Zbe r l e).length]),(901, .row 2 ((ZaU r l e).map ZaX)),(902, .row 1 ((Zbe r l e).map Zab))]) (λ e=>l.length-e) 0 ?_ ?_ ?_
       ·exact uG _
       ·refine kF (kc5 @ZaE.eq_1 @yU.{0} @Bb.{0,0} @yT.{0} hrn) [] [] ?_;exact kT0 kc0
       ·intro e he;rcases uC e l.length with hel|hel
        ·obtain⟨a,ha⟩:=Zac hel;have hai:=g4 e a ha;have hga:=hgap e a ha;have e1:=Zdq (r:=r) (v:=a.1) hai.1 (by omega);have e2:=Zdq (r:=r) (v:=a.2) hai.2.2.1 (by omega);have f1:=h5 a.1.toNat;have f2:=hrk a.2.toNat (by omega);rw[show((a.1.toNat:Nat):Int)=a.1 by omega]at f1;rw[show((a.2.toNat:Nat):Int)=a.2 by omega]at f2;have hgn:(ZaH r a:Int)=at0 r a.2-at0 r a.1-1:=by rw[ZaH];omega
         have hall:=Zin (r:=r) ha;have hal:=allR_len e he;generalize hA:ZaE r l e=all at hal hall;refine kw1 (kow (Nat.beq 111) (b:=false)) (kc3 ha e1 hrn) kc0 ?_;refine Ze2 (λ(u:Nat)=>u<=ZaH r a) (λ u=>[(1, .d (Zab r)),(2, .ptr 2 0 0 0),(4, .ptr 4 0 0 0),(10, .ptr 10 0 0 0),(13, .int (all.length+u)),(15, .ptr 15 0 0 0),(16, .ref 903 1 0 (u+1) (u+1)),(17, .int (at0 r a.1+1+u)),(103, .d (Zal l)),(104, .int l.length),(105, .int e)]) (λ u=>[⟨1,78,1,N,λ k=>(Za6 (all++Zap r a u) k).map D.int⟩]) (λ u=>[(2, .cells [.int i, .d (Zal l)]),(4, .cells [.int 0, .nilS, .nilS, .nilS]),(15, .cells [.int a.1, .int a.2]),(10, .cells [.int i, .ref 78 1 0 N N, .ref 901 2 0 (ZaU r l e).length (ZaU r l e).length, .ref 902 1 0 (Zbe r l e).length (Zbe r l e).length]),(901, .row 2 ((ZaU r l e).map ZaX)),(902, .row 1 ((Zbe r l e).map Zab)),(903, .row 1 ((ZcB all.length a u).map D.int))]) (λ u=>ZaH r a-u) 0 ?_ ?_ ?_
         ·exact uG _
         ·refine kF (kc5 @ZcB.eq_1 @Zap.eq_1 @jT @yT.{0} hA) [] [(903,111)] ?_;exact kT0 (kc4 @Zap.eq_1 @jT @yT.{0} hA)
         ·intro u hu;rcases uC u (ZaH r a)with hul|hul
          ·obtain⟨p,hp⟩:∃p:Nat,at0 r a.1+1+u=p:=⟨(at0 r a.1+1+u).toNat,by omega⟩;have hpN:p<N:=by omega
           have hlen:(all++Zap r a u).length=all.length+u:=by rw[uH,Zg8]
           have hstep:∀k:Nat,Za6 (all++Zap r a (u+1)) k=if k=p then Za6 (all++Zap r a u) k++[(all.length:Int)+u]else Za6 (all++Zap r a u) k:=λ k=>by
            rw[ZnG,<-qJ,Znu,hp,hlen,qQ];by_cases c:k=p
            ·rw[if_pos (by omega),if_pos c]
            ·rw[if_neg (by omega),if_neg c]
           have hll:=ZjK (all++Zap r a u) p;have hcl:=ZhL all.length a u;have htk:((ZcB all.length a u).map D.int).take (u+1)=(ZcB all.length a u).map D.int:=uE (by rw[uD,hcl];exact uI _);have hcs:=Zp0 all.length a u;refine Zaq _ (ZfT _ _ [2,4,15,10,78,901,902,903] 78 p 900 1 1 N (by first|rfl|(simp(disch:=omega) only[go_sem,simprocAttr];done)|(simp(disch:=omega) only[go_sem,simprocAttr];rfl)) (by first|(simp(disch:=omega) only[go_sem,simprocAttr];done)|(simp(disch:=omega) only[go_sem,simprocAttr];rfl)) (by first|(simp(disch:=omega) only[go_sem,simprocAttr];done)|(simp(disch:=omega) only[go_sem,simprocAttr];rfl)) (λ i hi hne=>by simp(disch:=omega) only[go_sem,simprocAttr,hne];(repeat' split)<;>exact .ref _ _ _ _ _ ⟨by simp(disch:=omega) only[go_sem,simprocAttr,hne],by simp(disch:=omega) only[go_sem,simprocAttr,hne]⟩) (by(repeat' first|refine ZfI ?_|exact ZfJ (ids:=[2,4,15,10,78,901,902,903]) rfl rfl (uY rfl)|refine ZfH ?_|refine ZfK ?_|refine ZfF ?_|refine ZfL ?_|refine ZfM ?_|refine ZfG (by dsimp only;omega) (by dsimp only;omega) (by omega) (by omega) (uY rfl) ?_);done) rfl rfl rfl) ?_;refine kw1 kO (kc7 e2 hp hrn @yH.{0} @Zan hcl htk) kc0 ?_;refine⟨u+1,?_,eF [(fid 1 p,137)] [(903,142)] _ _ _ (by refine⟨?_,?_⟩<;>(repeat' first|exact fmn|refine fmc ⟨(by first|rfl|(simp(disch:=omega) only[go_sem,simprocAttr,inL,hcs,uR,qQ,gY,<-zB,hp];first|done|omega|(congr 1;done))),?_⟩);done) ?_,?_⟩
           ·omega
           ·exact kT1 (kc7 @hstep @uR.{0,0} @uH.{0} @uD.{0,0} @uX.{0} @uW.{0} @Zan) p
           ·omega
          ·have:u=ZaH r a:=by omega
           subst this;have hcl:=ZhL all.length a (ZaH r a);have htk:((ZcB all.length a (ZaH r a)).map D.int).take (ZaH r a+1)=(ZcB all.length a (ZaH r a)).map D.int:=uE (by rw[uD,hcl];exact uI _);have hcd:ZaF r all.length a=ZcB all.length a (ZaH r a)++[a.2]:=rfl;have hcl2:=ZmH r all.length a;refine kw1 kP (kc4 e2 hrn hcl htk) kc0 ?_;refine Ze2 (λ(j:Nat)=>j<=ZaH r a+1) (λ j=>[(1, .d (Zab r)),(2, .ptr 2 0 0 0),(4, .ptr 4 0 0 0),(10, .ptr 10 0 0 0),(13, .int (all.length+ZaH r a)),(15, .ptr 15 0 0 0),(16, .ref 903 1 0 (ZaH r a+2) (ZaH r a+2)),(18, .int ((j:Int)+1)),(103, .d (Zal l)),(104, .int l.length),(105, .int e)]) (λ j=>[⟨1,78,1,N,λ k=>(Za6 (all++Zap r a (ZaH r a)) k).map D.int⟩]) (λ j=>[(2, .cells [.int i, .d (Zal l)]),(4, .cells [.int 0, .nilS, .nilS, .nilS]),(15, .cells [.int a.1, .int a.2]),(10, .cells [.int i, .ref 78 1 0 N N, .ref 901 2 0 (ZaU r l e++ZbX (ZaF r all.length a) j).length (ZaU r l e++ZbX (ZaF r all.length a) j).length, .ref 902 1 0 (Zbe r l e).length (Zbe r l e).length]),(901, .row 2 ((ZaU r l e++ZbX (ZaF r all.length a) j).map ZaX)),(902, .row 1 ((Zbe r l e).map Zab)),(903, .row 1 ((ZaF r all.length a).map D.int))]) (λ j=>ZaH r a+1-j) 0 ?_ ?_ ?_
           ·exact uG _
           ·refine kF (kc5 hcd @uR.{0,0} @ZbX.eq_1 @jT @yT.{0}) [] [(903,149)] ?_;exact kT0 kc0
           ·intro j hj;have hpl:=ZnV (ZaF r all.length a) j;have hafl:=ZkN hgap e he;rw[hA]at hafl;rcases uC j (ZaH r a+1)with hjl|hjl
            ·have gc1:=at0_at (r:=ZaF r all.length a) (i:=j) (by omega);have gc2:=at0_at (r:=ZaF r all.length a) (i:=j+1) (by omega);have en:((j:Int)+1).toNat=j+1:=by omega
             have hps:=Zso (ZaF r all.length a) j;have hpa:ZaX (Zhb (ZaF r all.length a) j)= .ag [.int (at0 (ZaF r all.length a) j), .int (at0 (ZaF r all.length a) ((j+1:Nat):Int))]:=rfl;have hap:ZaU r l e++ZbX (ZaF r all.length a) (j+1)=(ZaU r l e++ZbX (ZaF r all.length a) j)++[Zhb (ZaF r all.length a) j]:=by rw[hps,qJ]
             have hal2:(ZaU r l e++ZbX (ZaF r all.length a) j).length<=2000:=by rw[uH];omega
             try dsimp only
             generalize ZaF r all.length a=c at*;generalize hG:ZaU r l e++ZbX c j=G at*;refine kw1 kO (kc6 gc1 gc2 en hcl2 @Cq @Zan) kc0 ?_;refine⟨j+1,?_,kF (kc8 hap @uR.{0,0} @uH.{0} @uX.{0} @uW.{0} hpa @qQ @gY) [] [(901,169)] ?_,?_⟩
             ·omega
             ·exact kT0 kc0
             ·omega
            ·have:j=ZaH r a+1:=by omega
             subst this;have hcf:Zbe r l (e+1)=Zbe r l e++[ZaF r all.length a]:=by rw[Zbe,Za5,Zjp,ha,hA];rfl
             have haf:ZaU r l (e+1)=ZaU r l e++ZbX (ZaF r all.length a) (ZaH r a+1):=by rw[ZaU,Za5,Zis,ha,hA];rfl
             have hcfl:=Zk0 r l e he;have hnl:=Zg8 r a (ZaH r a);have hcd2:((ZaF r all.length a).map D.int).take (ZaH r a+2)=(ZaF r all.length a).map D.int:=uE (by rw[uD,hcl2];exact uI _);have hcft:((Zbe r l e).map Zab).take e=(Zbe r l e).map Zab:=uE (by rw[uD,hcfl];exact uI _);refine Zaq _ (Zw4 _ _ _ 903 1 ((ZaF r all.length a).map D.int) rfl rfl rfl rfl (by decide)) ?_;refine kw1 kO (kc5 hcl2 @uD.{0,0} hcd2 hcfl @Zan) kc0 ?_;refine⟨e+1,?_,kF (kc8 hcf haf hall @uR.{0,0} @uH.{0} @uX.{0} @uW.{0} (kc7 hnl @qQ @gY hcl2 hcd2 hcfl hcft)) [] [(902,175)] ?_,?_⟩
             ·omega
             ·exact kT0 (kc1 hall)
             ·omega
        ·have:e=l.length:=by omega
         subst this
         try dsimp only
         refine Zaq _ (Zjv _ _ _ _ ⟨ZbS rfl,ZbS rfl,(by(repeat' first|exact fmn|refine fmc ⟨⟨uY rfl,uY rfl,by dsimp only;omega⟩,?_⟩);done)⟩ rfl [2,4,10,78,901,902] rfl rfl rfl rfl) ?_;refine kw1 kO kc0 kc0 ?_;refine⟨_,rfl,⟨_,_,_,_,rfl,?_⟩,Zaf ?_,trivial⟩
         ·simp(disch:=omega) only[go_sem,simprocAttr,toD];have hNt:(ZcJ r (r.length-1)+1).toNat=N:=by omega
          rw[Zan,Zan,if_pos (by rw[zW];exact uI _),uE (by rw[uD,zW];exact uI _)];simp only[ZeZ,lvD,hNt,Zag,Zab,Zal,gR];rw[if_neg (by omega),gR];rfl
         ·rfl
theorem Zo6 (g:Gr)(r:List Int):Zaa Tryz.prog 49 [gD g,Zab r] (.tup [lvD (ZaP g r).1, .int (ZaP g r).2]):=by
 rcases h:Zea g r with _|_
 ·have:=ZuG g r h;have e:ZaP g r=(lv0,1):=by rw[ZaP,if_pos h]
  rw[e];exact this
 ·rcases h4:g.2.any ZdN with _|_
  ·exact ZuI g r h h4
  ·have:=ZuH g r h h4;have e:ZaP g r=(lv0,8):=by rw[ZaP,if_neg (by rw[h];decide),if_pos h4]
   rw[e];exact this
theorem Zha (r:List Int):∀d,d∈List.map D.int r->d.cells.length=1:=by
 intro d hd;obtain⟨x,_,rfl⟩:=uP.1 hd;rfl
def hiN (r:List Int):Nat->Int
 |0=>-1
 |k+1=>max (hiN r k) (at0 r k)
theorem Zq4 {r:List Int}(h:∀v:Nat,0<=at0 r v):∀k:Nat,hiN r (k+1)=ZcJ r k
 |0=>by
  have h0:=h 0;show max (-1) (at0 r ((0:Nat):Int))=at0 r ((0:Nat):Int);omega
 |k+1=>by rw[hiN,Zq4 h k,ZcJ]
def ZbN (all:List Int)(k:Nat):List (List Int):=(List.range k).map λ j=>Za6 all j
theorem ZyB (all:List Int)(k:Nat):ZbN all (k+1)=ZbN all k++[Za6 all k]:=by simp[ZbN,qP]
theorem Znv (all:List Int)(k:Nat):(ZbN all k).length=k:=by simp[ZbN]
theorem Zy5 (n:Nat)(l:List Arc)(r:List Int)(hrn:r.length=n)(hn:n<=64)(hl:l.length<=256)(g4:∀(k:Nat) (a:Arc),l[k]? =some a->0<=a.1/\a.1<n/\0<=a.2/\a.2<n)
  (h5:∀v:Nat,0<=at0 r v/\at0 r v<=255)(hgap:∀(k:Nat) a,l[k]? =some a->0<=at0 r a.2-at0 r a.1-1)(hbig:(n:Int)+Zbd r l l.length<=512):
  Zaa Tryz.prog 113 [gD (n,l),Zab r] (lvD (ZeZ (n,l) r)):=by
 have allR_len:∀e,e<=l.length->(ZaE r l e).length<=512:=λ e he=>by
  have h1:=ZkH hgap e he;have h2:=Zt1 hgap l.length e he;omega
 have hA0:ZaE r l 0=r:=by simp[ZaE]
 refine kE Tryz.func113 ?_;intro hat B X w0;refine kw1 (kow (Nat.beq 20) (b:=true)) (kc1 hrn) kc0 ?_;refine Zaq _ (Zb9 5 1 905 1 rfl rfl rfl) ?_;refine Zaq _ (Zb9 5 2 901 2 rfl rfl rfl) ?_;refine Zaq _ (Zb9 5 3 902 1 rfl rfl rfl) ?_;refine Zae (λ(e:Nat)=>e<=l.length) (λ e=>[(1, .d (Zab r)),(2, .ptr 2 0 0 0),(4, .ptr 4 0 0 0),(5, .ptr 5 0 0 0),(6, .ref 904 1 0 (ZaE r l e).length (ZaE r l e).length),(7, .int e)]) (λ e=>[(2, .cells [.int n, .d (Zal l)]),(4, .cells [.int 0, .nilS, .nilS, .nilS]),(5, .cells [.int n, .ref 905 1 0 0 0, .ref 901 2 0 (ZaU r l e).length (ZaU r l e).length, .ref 902 1 0 (Zbe r l e).length (Zbe r l e).length]),(905, .row 1 []),(901, .row 2 ((ZaU r l e).map ZaX)),(902, .row 1 ((Zbe r l e).map Zab)),(904, .row 1 ((ZaE r l e).map D.int))]) (λ e=>l.length-e) 0 ?_ ?_ ?_
 ·exact uG _
 ·exact kN (kc2 hA0 hrn) [(904,22)]
 ·intro e he;rcases uC e l.length with hel|hel
  ·obtain⟨a,ha⟩:=Zac hel;have hai:=g4 e a ha;have hga:=hgap e a ha;have e1:=Zdq (r:=r) (v:=a.1) hai.1 (by omega);have e2:=Zdq (r:=r) (v:=a.2) hai.2.2.1 (by omega);have f1:=h5 a.1.toNat;have f2:=h5 a.2.toNat;rw[show((a.1.toNat:Nat):Int)=a.1 by omega]at f1;rw[show((a.2.toNat:Nat):Int)=a.2 by omega]at f2;have hgn:(ZaH r a:Int)=at0 r a.2-at0 r a.1-1:=by rw[ZaH];omega
   have hall:=Zin (r:=r) ha;have hal:=allR_len e he;have hafl:=ZkN hgap e he;generalize hA:ZaE r l e=all at hal hall hafl
   try dsimp only
   try rw[hA]
   refine kw1 (kow (Nat.beq 37) (b:=true)) (kc3 ha e1 hrn) kc0 ?_;refine Zae (λ(u:Nat)=>u<=ZaH r a) (λ u=>[(1, .d (Zab r)),(2, .ptr 2 0 0 0),(4, .ptr 4 0 0 0),(5, .ptr 5 0 0 0),(6, .ref 904 1 0 (all.length+u) (all.length+u)),(7, .int e),(8, .ptr 8 0 0 0),(9, .ref 903 1 0 (u+1) (u+1)),(10, .int (at0 r a.1+1+u))]) (λ u=>[(2, .cells [.int n, .d (Zal l)]),(4, .cells [.int 0, .nilS, .nilS, .nilS]),(8, .cells [.int a.1, .int a.2]),(5, .cells [.int n, .ref 905 1 0 0 0, .ref 901 2 0 (ZaU r l e).length (ZaU r l e).length, .ref 902 1 0 (Zbe r l e).length (Zbe r l e).length]),(905, .row 1 []),(901, .row 2 ((ZaU r l e).map ZaX)),(902, .row 1 ((Zbe r l e).map Zab)),(904, .row 1 ((all++Zap r a u).map D.int)),(903, .row 1 ((ZcB all.length a u).map D.int))]) (λ u=>ZaH r a-u) 0 ?_ ?_ ?_
   ·exact uG _
   ·exact kN (kc5 @ZcB.eq_1 @Zap.eq_1 @jT @yT.{0} hA) [(903,37)]
   ·intro u hu;have hcl:=ZhL all.length a u;have hnl:=Zg8 r a u;have htk:((ZcB all.length a u).map D.int).take (u+1)=(ZcB all.length a u).map D.int:=uE (by rw[uD,hcl];exact uI _);have hta:((all++Zap r a u).map D.int).take (all.length+u)=(all++Zap r a u).map D.int:=uE (by rw[uD,uH,hnl];exact uI _);rcases uC u (ZaH r a)with hul|hul
    ·have hcs:=Zp0 all.length a u;have hns:=ZnG r a u;have hap:all++Zap r a (u+1)=(all++Zap r a u)++[at0 r a.1+1+u]:=by rw[hns,qJ]
     have hlu:(all++Zap r a u).length=all.length+u:=by rw[uH,hnl]
     generalize all++Zap r a u=G at*;generalize ZcB all.length a u=c at*;refine kw1 kO (kc6 e2 hrn hcl htk hta hlu) kc0 ?_;refine⟨u+1,?_,eL [(903,57),(904,61)] _ _ (by refine⟨?_,?_⟩<;>(repeat' first|exact fmn|refine fmc ⟨(by first|rfl|(simp(disch:=omega) only[go_sem,simprocAttr,inL,hcs,hap,uR,qQ,gY,<-zB,uH,hcl,hlu];first|done|omega|(congr 1;done))),?_⟩);done),?_⟩
     ·omega
     ·omega
    ·have:u=ZaH r a:=by omega
     subst this;have hcd:ZaF r all.length a=ZcB all.length a (ZaH r a)++[a.2]:=rfl;have hcl2:=ZmH r all.length a;refine kw1 kP (kc4 e2 hrn hcl htk) kc0 ?_;refine Zae (λ(j:Nat)=>j<=ZaH r a+1) (λ j=>[(1, .d (Zab r)),(2, .ptr 2 0 0 0),(4, .ptr 4 0 0 0),(5, .ptr 5 0 0 0),(6, .ref 904 1 0 (all.length+ZaH r a) (all.length+ZaH r a)),(7, .int e),(8, .ptr 8 0 0 0),(9, .ref 903 1 0 (ZaH r a+2) (ZaH r a+2)),(11, .int ((j:Int)+1))]) (λ j=>[(2, .cells [.int n, .d (Zal l)]),(4, .cells [.int 0, .nilS, .nilS, .nilS]),(8, .cells [.int a.1, .int a.2]),(5, .cells [.int n, .ref 905 1 0 0 0, .ref 901 2 0 (ZaU r l e++ZbX (ZaF r all.length a) j).length (ZaU r l e++ZbX (ZaF r all.length a) j).length, .ref 902 1 0 (Zbe r l e).length (Zbe r l e).length]),(905, .row 1 []),(901, .row 2 ((ZaU r l e++ZbX (ZaF r all.length a) j).map ZaX)),(902, .row 1 ((Zbe r l e).map Zab)),(904, .row 1 ((all++Zap r a (ZaH r a)).map D.int)),(903, .row 1 ((ZaF r all.length a).map D.int))]) (λ j=>ZaH r a+1-j) 0 ?_ ?_ ?_
     ·exact uG _
     ·exact kN (kc5 hcd @uR.{0,0} @ZbX.eq_1 @jT @yT.{0}) [(903,66)]
     ·intro j hj;have hpl:=ZnV (ZaF r all.length a) j;rcases uC j (ZaH r a+1)with hjl|hjl
      ·have gc1:=at0_at (r:=ZaF r all.length a) (i:=j) (by omega);have gc2:=at0_at (r:=ZaF r all.length a) (i:=j+1) (by omega);have en:((j:Int)+1).toNat=j+1:=by omega
       have hps:=Zso (ZaF r all.length a) j;have hpa:ZaX (Zhb (ZaF r all.length a) j)= .ag [.int (at0 (ZaF r all.length a) j), .int (at0 (ZaF r all.length a) ((j+1:Nat):Int))]:=rfl;have hap:ZaU r l e++ZbX (ZaF r all.length a) (j+1)=(ZaU r l e++ZbX (ZaF r all.length a) j)++[Zhb (ZaF r all.length a) j]:=by rw[hps,qJ]
       have hal2:(ZaU r l e++ZbX (ZaF r all.length a) j).length<=2000:=by rw[uH];omega
       try dsimp only
       generalize ZaF r all.length a=c at*;generalize hG:ZaU r l e++ZbX c j=G at*;refine kw1 kO (kc6 gc1 gc2 en hcl2 @Cq @Zan) kc0 ?_;refine⟨j+1,?_,kN (kc8 hap @uR.{0,0} @uH.{0} @uX.{0} @uW.{0} hpa @qQ @gY) [(901,86)],?_⟩
       ·omega
       ·omega
      ·have:j=ZaH r a+1:=by omega
       subst this;have hcf:Zbe r l (e+1)=Zbe r l e++[ZaF r all.length a]:=by rw[Zbe,Za5,Zjp,ha,hA];rfl
       have haf:ZaU r l (e+1)=ZaU r l e++ZbX (ZaF r all.length a) (ZaH r a+1):=by rw[ZaU,Za5,Zis,ha,hA];rfl
       have hcfl:=Zk0 r l e he;have hnl:=Zg8 r a (ZaH r a);have hcd2:((ZaF r all.length a).map D.int).take (ZaH r a+2)=(ZaF r all.length a).map D.int:=uE (by rw[uD,hcl2];exact uI _);have hcft:((Zbe r l e).map Zab).take e=(Zbe r l e).map Zab:=uE (by rw[uD,hcfl];exact uI _);refine Zaq _ (Zc2 903 1 ((ZaF r all.length a).map D.int) rfl (ZcS _ rfl) (by decide)) ?_;refine kw1 kO (kc5 hcl2 @uD.{0,0} hcd2 hcfl @Zan) kc0 ?_;refine⟨e+1,?_,kN (kc8 hcf haf hall @uR.{0,0} @uH.{0} @uX.{0} @uW.{0} (kc7 hnl @qQ @gY hcl2 hcd2 hcfl hcft)) [(902,92)],?_⟩
       ·omega
       ·omega
  ·have:e=l.length:=by omega
   subst this;have hal:=allR_len l.length (uI _);have hmd:ZeZ (n,l) r=((n:Int),if(n:Int)=0 then[]else(List.range (ZcJ r (r.length-1)+1).toNat).map λ k=>Za6 (ZaE r l l.length) k,ZaU r l l.length,Zbe r l l.length):=rfl;rw[hmd];generalize ZaE r l l.length=A at hal|-;generalize ZaU r l l.length=E;generalize Zbe r l l.length=C;refine kw1 kO kc0 kc0 ?_;refine Zae (λ(v:Nat)=>v<=n) (λ v=>[(1, .d (Zab r)),(2, .ptr 2 0 0 0),(4, .ptr 4 0 0 0),(5, .ptr 5 0 0 0),(6, .ref 904 1 0 A.length A.length),(12, .int (hiN r v)),(13, .int v)]) (λ v=>[(2, .cells [.int n, .d (Zal l)]),(4, .cells [.int 0, .nilS, .nilS, .nilS]),(5, .cells [.int n, .ref 905 1 0 0 0, .ref 901 2 0 E.length E.length, .ref 902 1 0 C.length C.length]),(905, .row 1 ([])),(901, .row 2 (E.map ZaX)),(902, .row 1 (C.map Zab)),(904, .row 1 (A.map D.int))]) (λ v=>n-v) 0 ?_ ?_ ?_
   ·exact uG _
   ·exact kN (kc1 @hiN.eq_1) []
   ·intro v hv;rcases uC v n with hvn|hvn
    ·have gv:=at0_at (r:=r) (i:=v) (by omega);refine kw1 kO (kc2 gv hrn) kc0 ?_;refine⟨v+1,?_,kN (kc2 @hiN.eq_1 @Zgv) [],?_⟩
     ·omega
     ·omega
    ·have:n=v:=by omega
     subst this;obtain⟨H,hH⟩:∃H:Nat,hiN r n+1=H/\H<=256/\(if(n:Int)=0 then[]else(List.range (ZcJ r (r.length-1)+1).toNat).map λ k=>Za6 A k)=ZbN A H:=by
      rcases qU n with h0|h0
      ·refine⟨0,?_,by omega,?_⟩
       ·rw[h0,hiN];rfl
       ·rw[if_pos (by omega)];rfl
      ·obtain⟨m,rfl⟩:∃m,n=m+1:=⟨n-1,by omega⟩;have e1:=Zq4 (λ v=>(h5 v).1) m;have e2:=Zll (λ j=>(h5 j).2) m;have e3:=ZiO r m 0 (by omega);have e4:=h5 0;refine⟨(ZcJ r m+1).toNat,by omega,by omega,?_⟩;rw[if_neg (by omega),hrn,zU];rfl
     obtain⟨hH,hH2,hH3⟩:=hH;rw[hH3];generalize hiN r n=hi at hH|-;refine kw1 kO kc0 kc0 ?_;refine Zae (λ(k:Nat)=>k<=H) (λ k=>[(1, .d (Zab r)),(2, .ptr 2 0 0 0),(4, .ptr 4 0 0 0),(5, .ptr 5 0 0 0),(6, .ref 904 1 0 A.length A.length),(12, .int hi),(14, .int k)]) (λ k=>[(2, .cells [.int n, .d (Zal l)]),(4, .cells [.int 0, .nilS, .nilS, .nilS]),(5, .cells [.int n, .ref 905 1 0 k k, .ref 901 2 0 E.length E.length, .ref 902 1 0 C.length C.length]),(905, .row 1 ((ZbN A k).map Zab)),(901, .row 2 (E.map ZaX)),(902, .row 1 (C.map Zab)),(904, .row 1 (A.map D.int))]) (λ k=>H-k) 0 ?_ ?_ ?_
     ·exact uG _
     ·exact kN (kc3 @ZbN.eq_1 @jT @yE.{0,0}) []
     ·intro k hk;rcases uC k H with hkH|hkH
      ·have hlk:=Znv A k;refine kw1 kO kc0 kc0 ?_;refine Zaq _ (Zc3 15 906 1 rfl rfl) ?_;refine Zae (λ(i:Nat)=>i<=A.length) (λ i=>[(1, .d (Zab r)),(2, .ptr 2 0 0 0),(4, .ptr 4 0 0 0),(5, .ptr 5 0 0 0),(6, .ref 904 1 0 A.length A.length),(12, .int hi),(14, .int k),(15, .ref 906 1 0 (Za6 (A.take i) k).length (Za6 (A.take i) k).length),(16, .int i)]) (λ i=>[(2, .cells [.int n, .d (Zal l)]),(4, .cells [.int 0, .nilS, .nilS, .nilS]),(5, .cells [.int n, .ref 905 1 0 k k, .ref 901 2 0 E.length E.length, .ref 902 1 0 C.length C.length]),(905, .row 1 ((ZbN A k).map Zab)),(901, .row 2 (E.map ZaX)),(902, .row 1 (C.map Zab)),(904, .row 1 (A.map D.int)),(906, .row 1 ((Za6 (A.take i) k).map D.int))]) (λ i=>A.length-i) 0 ?_ ?_ ?_
       ·exact uG _
       ·exact kN (kc6 @Za6.eq_1 @yU.{0} @jT @uW.{0} @kH.{0} @yE.{0,0}) []
       ·intro i hi2;have hll:=ZjK (A.take i) k;rw[yF]at hll;rcases uC i A.length with hiA|hiA
        ·have gi:=at0_at hiA;have hst:Za6 (A.take (i+1)) k=if at0 A i=k then Za6 (A.take i) k++[(i:Int)]else Za6 (A.take i) k:=by
          rw[ZaA gi,Znu,yF,jM (by omega)]
         generalize Za6 (A.take i) k=L at hst hll|-;by_cases hx:at0 A i=k
         ·rw[if_pos hx]at hst;refine kw1 kO (kc3 gi hx @Zan) kc0 ?_;refine⟨i+1,?_,kN (kc5 hst @uR.{0,0} @uH.{0} @uX.{0} @uW.{0}) [(906,126)],?_⟩
          ·omega
          ·omega
         ·rw[if_neg hx]at hst;refine kw1 kO (kc2 gi @Zan) kc0 ?_;refine⟨i+1,?_,kN (kc1 hst) [],?_⟩
          ·omega
          ·omega
        ·have:i=A.length:=by omega
         subst this;have hAA:A.take A.length=A:=yH;rw[hAA]at hll;have hls:=ZyB A k;have hlt:((ZbN A k).map Zab).take k=(ZbN A k).map Zab:=uE (by rw[uD,hlk];exact uI _)
         try dsimp only
         rw[hAA];refine Zaq _ (Zc2 906 1 ((Za6 A k).map D.int) rfl (ZcS _ rfl) (by decide)) ?_;refine kw1 kO (kc3 @uD.{0,0} hlk @Zan) kc0 ?_;refine⟨k+1,?_,kN (kc8 hls @uR.{0,0} @uH.{0} @uX.{0} @uW.{0} hlk hlt (kc2 @qQ @gY)) [(905,131)],?_⟩
         ·omega
         ·omega
      ·have:k=H:=by omega
       subst this;have hlk:=Znv A k;refine kw1 kO kc0 kc0 ?_;have hlt:((ZbN A k).map Zab).take k=(ZbN A k).map Zab:=uE (by rw[uD,hlk];exact uI _);refine⟨_,_,_,_,rfl,?_⟩;simp(disch:=omega) only[go_sem,simprocAttr,toD,hlk,hlt,Zan]
theorem ZAL (g:Gr)(r:List Int)(h:gOk g=false\/(r.length:Int)≠g.1):Zaa Tryz.prog 55 [gD g,Zab r] (.tup [lvD lv0, .int 1]):=by
 have hv:=Zh8 g;rcases h1:gOk g with _|_<;>rw[h1]at hv
 ·refine kE Tryz.func55 ?_;intro hat B X w0;refine kw1 kO kc0 (kc1 hv) ?_
  all_goals
   refine⟨_,rfl,⟨_,_,_,_,rfl,?_⟩,Zaf ?_,trivial⟩
   ·simp(disch:=omega) only[go_sem,simprocAttr,toD];rfl
   ·rfl
 ·have h2:(r.length:Int)≠g.1:=by
   rcases h with h|h
   ·rw[h1]at h;exact absurd h (by decide)
   ·exact h
  refine kE Tryz.func55 ?_;intro hat B X w0;have hl:=ZaY 1 hat rfl;rw[uD]at hl;refine kw1 kO (kc1 h2) (kc1 hv) ?_
  all_goals
   refine⟨_,rfl,⟨_,_,_,_,rfl,?_⟩,Zaf ?_,trivial⟩
   ·simp(disch:=omega) only[go_sem,simprocAttr,toD];rfl
   ·rfl
theorem ZAM (g:Gr)(r:List Int)(h1:gOk g=true)(h2:(r.length:Int)=g.1):Zaa Tryz.prog 55 [gD g,Zab r] (.tup [lvD (ZaP g r).1, .int (ZaP g r).2]):=by
 have hv:=Zh8 g;obtain⟨g1,g2,g3,g4⟩:=ZjB h1;have hbf:ZaP g r=if r.any Zdj then(lv0,1)else if g.2.any ZdN then(lv0,8)else if g.2.any (ZcV r)then(lv0,3)else if 512<g.1+Zbd r g.2 g.2.length then(lv0,2)else(ZeZ g r,0):=by
  rw[ZaP,Zea,h1];cases r.any Zdj<;>simp[h2]
 rw[h1]at hv;obtain⟨m,l⟩:=g;dsimp only at g1 g2 g3 g4 h2 hbf;obtain⟨n,rfl⟩:∃n:Nat,m=n:=⟨m.toNat,by omega⟩;have hrn:r.length=n:=by omega
 refine kE Tryz.func55 ?_;intro hat B X w0;refine kw1 kO (kc1 hrn) (kc1 hv) ?_;refine Zae (λ(k:Nat)=>k<=n/\∀(j:Nat) y,j<k->r[j]? =some y->Zdj y=false) (λ k=>[(1, .d (Zab r)),(2, .ptr 2 0 0 0),(4, .ptr 4 0 0 0),(6, .int k)]) (λ k=>[(2, .cells [.int n, .d (Zal l)]),(4, .cells [.int 0, .nilS, .nilS, .nilS])]) (λ k=>n-k) 0 ?_ ?_ ?_
 ·exact⟨uG _,λ j y h=>by omega⟩
 ·exact kN kc0 []
 ·rintro k ⟨hk,hinv⟩;rcases uC k n with hlt|hge
  ·have gk:=at0_at (r:=r) (i:=k) (by omega);rcases hrb:Zdj (at0 r k)with _|_
   ·have hb:0<=at0 r k/\at0 r k<=255:=by
     simp only[Zdj,yZ]at hrb;omega
    refine kw1 kO (kc2 gk hrn) kc0 ?_;refine⟨k+1,?_,kN kc0 [],?_⟩
    ·exact⟨by omega,Zbj hinv gk hrb⟩
    ·omega
   ·have hany:r.any Zdj=true:=Zb0 gk hrb;rw[hbf,if_pos hany];simp only[Zdj,uF]at hrb;refine kw kO (kc2 gk hrn) kc0 ?_
    repeat' first|exact True.intro|refine Bn.mk ?_ ?_|intro hc
    all_goals
     refine⟨_,rfl,⟨_,_,_,_,rfl,?_⟩,Zaf ?_,trivial⟩
     ·simp(disch:=omega) only[go_sem,simprocAttr,toD];rfl
     ·rfl
  ·have:n=k:=by omega
   subst this;have hany:r.any Zdj=false:=Zck λ j y hj=>hinv j y (by omega)
   have hrk:Zea ((n:Int),l) r=true:=by simp[Zea,h1,hrn,hany]
   obtain⟨_,_,_,h5⟩:=ZlD hrk;have hsum:=ZoE (r:=r) (l:=l) h5 (λ k a ha=>by have:=g4 k a ha;omega);rw[hany]at hbf;simp only[qD,jE]at hbf;refine kw1 kO kc0 kc0 ?_;refine Zae (λ(k:Nat)=>k<=l.length/\∀(j:Nat) y,j<k->l[j]? =some y->ZdN y=false) (λ k=>[(1, .d (Zab r)),(2, .ptr 2 0 0 0),(4, .ptr 4 0 0 0),(7, .int k)]) (λ k=>[(2, .cells [.int n, .d (Zal l)]),(4, .cells [.int 0, .nilS, .nilS, .nilS])]) (λ k=>l.length-k) 0 ?_ ?_ ?_
   ·exact⟨uG _,λ j y h=>by omega⟩
   ·exact kN kc0 []
   ·rintro k ⟨hk,hinv⟩;rcases uC k l.length with hlt|hge
    ·obtain⟨a,ha⟩:=Zac hlt;rcases hlf:ZdN a with _|_
     ·have hne:¬a.1=a.2:=by simpa[ZdN]using hlf
      refine kw1 kO (kc1 ha) kc0 ?_;refine⟨k+1,?_,kN kc0 [],?_⟩
      ·exact⟨by omega,Zbj hinv ha hlf⟩
      ·omega
     ·have hany:l.any ZdN=true:=Zb0 ha hlf;have hne:a.1=a.2:=by simpa[ZdN]using hlf
      rw[hbf,if_pos hany];refine kw1 kO (kc1 ha) kc0 ?_;refine⟨_,rfl,⟨_,_,_,_,rfl,?_⟩,Zaf ?_,trivial⟩
      ·simp(disch:=omega) only[go_sem,simprocAttr,toD];rfl
      ·rfl
    ·have:k=l.length:=by omega
     subst this;have hany:l.any ZdN=false:=Zck λ j y hj=>hinv j y (by omega)
     rw[hany]at hbf;simp only[qD,jE]at hbf;refine kw1 kO kc0 kc0 ?_;refine Zae (λ(k:Nat)=>k<=l.length/\∀(j:Nat) y,j<k->l[j]? =some y->ZcV r y=false) (λ k=>[(1, .d (Zab r)),(2, .ptr 2 0 0 0),(4, .ptr 4 0 0 0),(8, .int (n+Zbd r l k)),(9, .int k)]) (λ k=>[(2, .cells [.int n, .d (Zal l)]),(4, .cells [.int 0, .nilS, .nilS, .nilS])]) (λ k=>l.length-k) 0 ?_ ?_ ?_
     ·exact⟨uG _,λ j y h=>by omega⟩
     ·exact kN (kc2 @Zbd.eq_1 @jW) []
     ·rintro k ⟨hk,hinv⟩;have hsk:=hsum k;rcases uC k l.length with hlt|hge
      ·obtain⟨a,ha⟩:=Zac hlt;have hai:=g4 k a ha;have e1:=Zdq (r:=r) (v:=a.1) hai.1 (by omega);have e2:=Zdq (r:=r) (v:=a.2) hai.2.2.1 (by omega);have f1:=h5 a.1.toNat;have f2:=h5 a.2.toNat;rw[show((a.1.toNat:Nat):Int)=a.1 by omega]at f1;rw[show((a.2.toNat:Nat):Int)=a.2 by omega]at f2;have hss:Zbd r l (k+1)=Zbd r l k+(at0 r a.2-at0 r a.1-1):=by rw[Zbd,ha]
       rcases hup:ZcV r a with _|_
       ·have hup2:=hup;rw[ZcV,yZ]at hup2;refine kw1 kO (kc4 ha e1 e2 hrn) kc0 ?_;refine⟨k+1,?_,kN (kc2 hss @zB) [],?_⟩
        ·exact⟨by omega,Zbj hinv ha hup⟩
        ·omega
       ·have hany:l.any (ZcV r)=true:=Zb0 ha hup;rw[ZcV,uF]at hup;rw[hbf,if_pos hany];refine kw1 kO (kc4 ha e1 e2 hrn) kc0 ?_;refine⟨_,rfl,⟨_,_,_,_,rfl,?_⟩,Zaf ?_,trivial⟩
        ·simp(disch:=omega) only[go_sem,simprocAttr,toD];rfl
        ·rfl
      ·have:k=l.length:=by omega
       subst this;have hany:l.any (ZcV r)=false:=Zck λ j y hj=>hinv j y (by omega)
       rw[hbf,if_neg (by rw[hany];decide)];by_cases hbig:512<(n:Int)+Zbd r l l.length
       ·rw[if_pos hbig];refine kw1 kO kc0 kc0 ?_;refine⟨_,rfl,⟨_,_,_,_,rfl,?_⟩,Zaf ?_,trivial⟩
        ·simp(disch:=omega) only[go_sem,simprocAttr,toD];rfl
        ·rfl
       ·rw[if_neg hbig];have hgap:∀(k:Nat) a,l[k]? =some a->0<=at0 r a.2-at0 r a.1-1:=λ k a ha=>by
         have:=qA.1 hany a (uA ha);rw[ZcV,uF]at this;omega
        have hm:=Zy5 n l r hrn (by omega) g3 g4 h5 hgap (by omega);refine kw1 kO kc0 (kc1 hm) ?_;refine⟨_,rfl,⟨_,_,_,_,rfl,?_⟩,Zaf ?_,trivial⟩
        ·simp(disch:=omega) only[go_sem,simprocAttr,toD]
        ·rfl
theorem ZAN (g:Gr)(r:List Int):Zaa Tryz.prog 55 [gD g,Zab r] (.tup [lvD (ZaP g r).1, .int (ZaP g r).2]):=by
 by_cases h:gOk g=true/\(r.length:Int)=g.1
 ·exact ZAM g r h.1 h.2
 ·have hr:Zea g r=false:=by
   rw[Zea];rcases h1:gOk g with _|_
   ·simp
   ·have h2:¬(r.length:Int)=g.1:=λ h2=>h ⟨h1,h2⟩
    simp[h2]
  have e:ZaP g r=(lv0,1):=by rw[ZaP,if_pos hr]
  rw[e];refine ZAL g r ?_;rcases h1:gOk g with _|_
  ·exact .inl rfl
  ·exact .inr λ h2=>h ⟨h1,h2⟩
theorem ZB8 (l m:List Int):Zaa Tryz.prog 140 [Zab l,Zab m] (.bool (decide (l=m))):=by
 refine kE Tryz.func140 ?_;intro hat B X w0;have hl:=ZaY 0 hat rfl;have hm:=ZaY 1 hat rfl;rw[uD]at hl hm;by_cases hlm:l.length=m.length
 ·refine kw1 kO kc0 kc0 ?_;refine Zae (λ(k:Nat)=>k<=l.length/\l.take k=m.take k) (λ k=>[(0, .d (Zab l)),(1, .d (Zab m)),(5, .int k)]) (λ k=>[]) (λ k=>l.length-k) 0 ?_ ?_ ?_
  ·exact⟨uG _,rfl⟩
  ·exact kN kc0 []
  ·rintro k ⟨hk,hinv⟩;rcases uC k l.length with hlt|hge
   ·obtain⟨p,hp⟩:=Zac hlt;obtain⟨q,hq⟩:=Zac (hlm▸hlt);refine kw kO (kc2 hp hq) kc0 ?_
    repeat' first|exact True.intro|refine Bn.mk ?_ ?_|intro hc
    ·refine Zai ?_;rw[uU (ZgR hp hq hc)]
    ·refine⟨k+1,?_,eL [] _ _ (by refine⟨?_,?_⟩<;>(repeat' first|exact fmn|refine fmc ⟨(by first|rfl|(simp(disch:=omega) only[go_sem,simprocAttr,inL];first|done|omega|(congr 1;done))),?_⟩);done),?_⟩
     ·exact⟨by omega,by rw[ZaA hp,ZaA hq,hinv,hc]⟩
     ·omega
   ·refine kw1 kO kc0 kc0 ?_;refine Zai ?_;rw[uE hge,uE (by omega)]at hinv;simp[hinv]
 ·refine kw1 kO kc0 kc0 ?_;refine Zai ?_;rw[uU];rintro rfl;exact hlm rfl
theorem Ztt (l m:List (List Int)):Zaa Tryz.prog 83 [Zag l,Zag m] (.bool (decide (l=m))):=by
 refine kE Tryz.func83 ?_;intro hat B X w0;have hl:=ZaY 0 hat rfl;have hm:=ZaY 1 hat rfl;rw[uD]at hl hm;by_cases hlm:l.length=m.length
 ·refine kw1 kO kc0 kc0 ?_;refine Zae (λ(k:Nat)=>k<=l.length/\l.take k=m.take k) (λ k=>[(0, .d (Zag l)),(1, .d (Zag m)),(5, .int k)]) (λ k=>[]) (λ k=>l.length-k) 0 ?_ ?_ ?_
  ·exact⟨uG _,rfl⟩
  ·exact kN kc0 []
  ·rintro k ⟨hk,hinv⟩;rcases uC k l.length with hlt|hge
   ·obtain⟨p,hp⟩:=Zac hlt;obtain⟨q,hq⟩:=Zac (hlm▸hlt);have he:=ZB8 p q;by_cases hpq:p=q
    ·rw[yB hpq]at he;refine kw1 kO (kc2 hp hq) (kc1 he) ?_;refine⟨k+1,?_,kN kc0 [],?_⟩
     ·exact⟨by omega,by rw[ZaA hp,ZaA hq,hinv,hpq]⟩
     ·omega
    ·rw[uU hpq]at he;refine kw1 kO (kc2 hp hq) (kc1 he) ?_;refine Zai ?_;rw[uU (ZgR hp hq hpq)]
   ·refine kw1 kO kc0 kc0 ?_;refine Zai ?_;rw[uE hge,uE (by omega)]at hinv;simp[hinv]
 ·refine kw1 kO kc0 kc0 ?_;refine Zai ?_;rw[uU];rintro rfl;exact hlm rfl
theorem Zts (l m:List (List Int)):Zaa Tryz.prog 171 [Zag l,Zag m] (.bool (decide (l=m))):=by
 have h:=Zw6 l m;refine kE Tryz.func171 ?_;intro hat B X w0;refine kw1 kO kc0 (kc1 h) ?_;exact Zai rfl
def Zfy (a b:Lv):Bool:=decide (a.1=b.1)&&decide (a.2.1=b.2.1)&&decide (a.2.2.1=b.2.2.1)&&decide (a.2.2.2=b.2.2.2)
theorem ZlN {a b:Lv}:Zfy a b=true↔a=b:=by
 obtain⟨a1,a2,a3,a4⟩:=a;obtain⟨b1,b2,b3,b4⟩:=b;simp[Zfy,Prod.ext_iff,and_assoc]
theorem ZuW (a b:Lv):Zaa Tryz.prog 107 [lvD a,lvD b] (.bool (Zfy a b)):=by
 have h1:=Zts a.2.1 b.2.1;have h2:=Zw7 a.2.2.1 b.2.2.1;have h3:=Zts a.2.2.2 b.2.2.2;rw[Zfy];by_cases e:a.1=b.1
 ·rw[yB e];rcases e1:decide (a.2.1=b.2.1)with _|_<;>rw[e1]at h1<;>rcases e2:decide (a.2.2.1=b.2.2.1)with _|_<;>rw[e2]at h2<;>rcases e3:decide (a.2.2.2=b.2.2.2)with _|_<;>rw[e3]at h3
  all_goals
   refine kE Tryz.func107 ?_;intro hat B X w0;refine kw1 kO (kc1 e) (kc3 h1 h2 h3) ?_;exact Zai rfl
 ·rw[uU e];refine kE Tryz.func107 ?_;intro hat B X w0;refine kw1 kO (kc1 e) (kc3 h1 h2 h3) ?_;exact Zai rfl
theorem ZA2 (a b:Lv):Zaa Tryz.prog 35 [lvD a,lvD b] (.bool (Zfy a b)):=by
 have h1:=Ztt a.2.1 b.2.1;have h3:=Ztt a.2.2.2 b.2.2.2;obtain⟨a1,a2,a3,a4⟩:=a;obtain⟨b1,b2,b3,b4⟩:=b;dsimp only[Zfy]at*;have fl:∀x:Bool,x=false->Zaa Tryz.prog 35 [lvD (a1,a2,a3,a4),lvD (b1,b2,b3,b4)] (.bool false)->Zaa Tryz.prog 35 [lvD (a1,a2,a3,a4),lvD (b1,b2,b3,b4)] (.bool x):=λ x hx h=>hx▸h
 by_cases e:a1=b1/\a3.length=b3.length
 ·obtain⟨rfl,e2⟩:=e;rcases e1:decide (a2=b2)with _|_
  ·rw[e1]at h1;refine fl _ (by simp) ?_;refine kE Tryz.func35 ?_;intro hat B X w0;have hla:=Zb7 0 2 hat rfl rfl;have hlb:=Zb7 1 2 hat rfl rfl;rw[uD]at hla hlb;dsimp only at hla hlb;refine kw1 kO (kc1 e2) (kc2 h1 h3) ?_;exact Zai rfl
  ·rw[e1]at h1;rcases e4:decide (a4=b4)with _|_
   ·rw[e4]at h3;refine fl _ (by simp) ?_;refine kE Tryz.func35 ?_;intro hat B X w0;have hla:=Zb7 0 2 hat rfl rfl;have hlb:=Zb7 1 2 hat rfl rfl;rw[uD]at hla hlb;dsimp only at hla hlb;refine kw1 kO (kc1 e2) (kc2 h1 h3) ?_;exact Zai rfl
   ·rw[e4]at h3;have er:(decide (a1=a1)&&true&&decide (a3=b3)&&true)=decide (a3=b3):=by simp
    rw[er];refine kE Tryz.func35 ?_;intro hat B X w0;have hla:=Zb7 0 2 hat rfl rfl;have hlb:=Zb7 1 2 hat rfl rfl;rw[uD]at hla hlb;dsimp only at hla hlb;refine kw1 kO (kc1 e2) (kc2 h1 h3) ?_;refine Zae (λ(k:Nat)=>k<=a3.length/\a3.take k=b3.take k) (λ k=>[(2, .ptr 2 0 0 0),(3, .ptr 3 0 0 0),(5, .int k)]) (λ k=>[(2, .cells [.int a1, .d (Zag a2), .d (Zal a3), .d (Zag a4)]),(3, .cells [.int a1, .d (Zag b2), .d (Zal b3), .d (Zag b4)])]) (λ k=>a3.length-k) 0 ?_ ?_ ?_
    ·exact⟨uG _,rfl⟩
    ·exact kN kc0 []
    ·rintro k ⟨hk,hinv⟩;rcases uC k a3.length with hlt|hge
     ·obtain⟨p,hp⟩:=Zac hlt;obtain⟨q,hq⟩:=Zac (e2▸hlt);refine kw kO (kc3 hp hq @Zpp) kc0 ?_
      repeat' first|exact True.intro|refine Bn.mk ?_ ?_|intro hc
      ·refine Zai ?_;rw[uU (ZgR hp hq hc)]
      ·refine⟨k+1,?_,eL [] _ _ (by refine⟨?_,?_⟩<;>(repeat' first|exact fmn|refine fmc ⟨(by first|rfl|(simp(disch:=omega) only[go_sem,simprocAttr,inL];first|done|omega|(congr 1;done))),?_⟩);done),?_⟩
       ·exact⟨by omega,by rw[ZaA hp,ZaA hq,hinv,hc]⟩
       ·omega
     ·refine kw1 kO kc0 kc0 ?_;refine Zai ?_;rw[uE hge,uE (by omega)]at hinv;simp[hinv]
 ·refine fl _ ?_ ?_
  ·rcases jC (a1=b1)with h|h
   ·have h2:¬a3=b3:=λ h2=>e ⟨h,by rw[h2]⟩
    simp[h2]
   ·simp[h]
  ·refine kE Tryz.func35 ?_;intro hat B X w0;have hla:=Zb7 0 2 hat rfl rfl;have hlb:=Zb7 1 2 hat rfl rfl;rw[uD]at hla hlb;dsimp only at hla hlb;by_cases h:a1=b1
   ·have h2:¬a3.length=b3.length:=λ h2=>e ⟨h,h2⟩
    refine kw1 kO (kc1 h) (kc2 h1 h3) ?_;exact Zai rfl
   ·refine kw1 kO (kc1 h) (kc2 h1 h3) ?_;exact Zai rfl
end Go.Proofs.YtjjbhjnpeenbkaaGreatDoor
