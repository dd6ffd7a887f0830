/- Levels built: the walk. -/
import Derived.Test.YtjjbhjnpeenbkaaGreatDoorA
set_option linter.unusedSimpArgs false
set_option linter.unusedVariables false
set_option maxHeartbeats 16000000
namespace Go.Proofs.YtjjbhjnpeenbkaaGreatDoor
open Go Go.PS Go.Proofs
set_option maxRecDepth 100000
attribute [local irreducible] ao wpG ah ax
theorem ud {g:Gr}{r:List Int}(h:iC g r=true):gOk g=true/\(r.length:Int)=g.1/\r.any fI=false/\∀v:Nat,0<=at0 r v/\at0 r v<=255:=by
 simp only[iC,uN,uG,yL]at h;obtain⟨⟨Y,X⟩,Z⟩:=h;refine⟨Y,X,Z,λ v=>?_⟩;rw[at0];cases V:r[((v:Nat):Int).toNat]? with
 |none=>simp
 |some x=>
  simp only[qH]at Z;have:=Z x (uA V);simp only[fI,uG]at this;dsimp only[Option.getD_some];omega
theorem I9 (g:Gr)(r:List Int)(h:iC g r=false):ah Tryz.prog 49 [gD g,aj r] (.tup [lvD lv0, .int 1]):=by
 have Y:=mU g;have U:=ti r 99 fI yd;rcases S:gOk g with _|_<;>rw[S]at Y
 ·refine kE Tryz.func49 ?_;intro Z B X R;refine ac kO aa (ae Y) ?_
  all_goals
   refine⟨_,rfl,⟨_,_,_,_,rfl,?_⟩,ap ?_,trivial⟩
   ·simp(disch:=omega) only[go_sem,simprocAttr,toD];rfl
   ·rfl
 ·by_cases V:(r.length:Int)=g.1
  ·have Q:r.any fI=true:=by simpa[iC,S,V]using h
   rw[Q]at U;refine kE Tryz.func49 ?_;intro Z B X R;have T:=bI 1 Z rfl;rw[uC]at T;refine ac kO (ae V) (ai Y U) ?_
   all_goals
    refine⟨_,rfl,⟨_,_,_,_,rfl,?_⟩,ap ?_,trivial⟩
    ·simp(disch:=omega) only[go_sem,simprocAttr,toD];rfl
    ·rfl
  ·refine kE Tryz.func49 ?_;intro Z B X R;have T:=bI 1 Z rfl;rw[uC]at T;refine ac kO (ae V) (ai Y U) ?_
   all_goals
    refine⟨_,rfl,⟨_,_,_,_,rfl,?_⟩,ap ?_,trivial⟩
    ·simp(disch:=omega) only[go_sem,simprocAttr,toD];rfl
    ·rfl
theorem Ja (g:Gr)(r:List Int)(h:iC g r=true)(Q:g.2.any g8=true):ah Tryz.prog 49 [gD g,aj r] (.tup [lvD lv0, .int 8]):=by
 have U:=mU g;have Y:=ti r 99 fI yd;have V:=C9 g.2 101 g8 Ft;obtain⟨T,S,R,N⟩:=ud h;rw[T]at U;rw[R]at Y;rw[Q]at V;refine kE Tryz.func49 ?_;intro Z B X M;have O:=bI 1 Z rfl;rw[uC]at O;refine ac kO (ae S) (av U Y V) ?_
 all_goals
  refine⟨_,rfl,⟨_,_,_,_,rfl,?_⟩,ap ?_,trivial⟩
  ·simp(disch:=omega) only[go_sem,simprocAttr,toD];rfl
  ·rfl
theorem zg {r:List Int}{l:List Arc}(Z:∀v:Nat,0<=at0 r v/\at0 r v<=255)(h:∀(k:Nat) a,l[k]? =some a->0<=a.1/\0<=a.2):∀k:Nat,-(256*(k:Int))<=cf r l k/\cf r l k<=256*(k:Int)
 |0=>by simp[cf]
 |k+1=>by
  have T:=zg Z h k;cases Y:l[k]? with
  |none=>simp only[cf,Y];omega
  |some a=>
   have U:=h k a Y;have X:=Z a.1.toNat;have V:=Z a.2.toNat;rw[show((a.1.toNat:Nat):Int)=a.1 by omega]at X;rw[show((a.2.toNat:Nat):Int)=a.2 by omega]at V;have e:cf r l (k+1)=cf r l k+(at0 r a.2-at0 r a.1-1):=by rw[cf,Y]
   rw[e];generalize at0 r a.2=x at*;generalize at0 r a.1=y at*;omega
theorem sW {r:List Int}{l:List Arc}(h:∀(k:Nat) a,l[k]? =some a->0<=at0 r a.2-at0 r a.1-1):∀e,e<=l.length->((aX r l e).length:Int)=r.length+cf r l e:=by
 intro e
 induction e with
 |zero=>intro _;simp[aX,cf]
 |succ e X=>
  intro U;obtain⟨a,Z⟩:=ak (show e<l.length by omega);have V:=h e a Z;have Y:cf r l (e+1)=cf r l e+(at0 r a.2-at0 r a.1-1):=by rw[cf,Z]
  rw[o8 Z,uH,nC,Y,bc];have:=X xA;omega
theorem H9 {r:List Int}{l:List Arc}(Z:∀(k:Nat) a,l[k]? =some a->0<=at0 r a.2-at0 r a.1-1):∀(m e:Nat),e<=m->cf r l e<=cf r l m:=by
 intro m
 induction m with
 |zero=>intro e V;rw[show e=0 by omega];exact qR _
 |succ m U=>
  intro e V;rcases uD e (m+1)with h|h
  ·have:=U e xA;cases Y:l[m]? with
   |none=>have X:cf r l (m+1)=cf r l m+0:=by rw[cf,Y]
          omega
   |some a=>
    have X:cf r l (m+1)=cf r l m+(at0 r a.2-at0 r a.1-1):=by rw[cf,Y]
    have:=Z m a Y;omega
  ·rw[show e=m+1 by omega];exact qR _
theorem s6 {r:List Int}{l:List Arc}(Z:∀(k:Nat) a,l[k]? =some a->0<=at0 r a.2-at0 r a.1-1):∀e,e<=l.length->(bK r l e).length+r.length=(aX r l e).length+e:=by
 intro e
 induction e with
 |zero=>intro _;simp[bK,b8,aX]
 |succ e Y=>
  intro X;obtain⟨a,h⟩:=ak (show e<l.length by omega);have:=Y xA;simp only[bK,b8,uH]at this|-;rw[o8 h,uH,nC,pi,h];dsimp only;rw[xM];omega
theorem tg (r:List Int)(l:List Arc):∀e,e<=l.length->(ci r l e).length=e:=by
 intro e
 induction e with
 |zero=>intro _;simp[ci,b8]
 |succ e Z=>
  intro Y;obtain⟨a,h⟩:=ak (show e<l.length by omega);have:=Z xA;simp only[ci,b8,uH]at this|-;rw[rf,h];dsimp only[List.length_cons,List.length_nil];omega
theorem Jb (g:Gr)(r:List Int)(h:iC g r=true)(h4:g.2.any g8=false):ah Tryz.prog 49 [gD g,aj r] (.tup [lvD (aO g r).1, .int (aO g r).2]):=by
 have hv:=mU g;have hc:=ti r 99 fI yd;have hd:=C9 g.2 101 g8 Ft;obtain⟨h1,h2,h3,J⟩:=ud h;have C:aO g r=if g.2.any (ff r)then(lv0,3)else if 512<g.1+cf r g.2 g.2.length then(lv0,2)else(ki g r,0):=by
  rw[aO,h,h4];simp
 obtain⟨g1,g2,g3,g4⟩:=rx h1;rw[h1]at hv;rw[h3]at hc;rw[h4]at hd;obtain⟨m,l⟩:=g;dsimp only at g1 g2 g3 g4 h2 hd C;obtain⟨n,rfl⟩:∃n:Nat,m=n:=⟨m.toNat,xA⟩;have Z:r.length=n:=xA;have hsum:=zg (r:=r) (l:=l) J (λ k a Y=>by have:=g4 k a Y;omega);refine kE Tryz.func49 ?_;intro hat B X w0;refine ac kO (ae Z) (av hv hc hd) ?_;refine aq (λ(k:Nat)=>k<=l.length/\∀(j:Nat) y,j<k->l[j]? =some y->ff r y=false) (λ k=>[(1, .d (aj r)),(2, .ptr 2 0 0 0),(4, .ptr 4 0 0 0),(6, .int (n+cf r l k)),(41, .d (aw l)),(42, .int l.length),(43, .int k)]) (λ k=>[(2, .cells [.int n, .d (aw l)]),(4, .cells [.int 0, .nilS, .nilS, .nilS])]) (λ k=>l.length-k) 0 ?_ ?_ ?_
 ·exact⟨uF _,λ j y h=>xA⟩
 ·exact kN (ai @cf.eq_1 @jM) []
 ·rintro k ⟨hk,E⟩;have hsk:=hsum k;rcases uD k l.length with hlt|hge
  ·obtain⟨a,Y⟩:=ak hlt;have Q:=g4 k a Y;have e1:=fP (r:=r) (v:=a.1) Q.1 xA;have q:=fP (r:=r) (v:=a.2) Q.2.2.1 xA;have f1:=J a.1.toNat;have f2:=J a.2.toNat;rw[show((a.1.toNat:Nat):Int)=a.1 by omega]at f1;rw[show((a.2.toNat:Nat):Int)=a.2 by omega]at f2;have hss:cf r l (k+1)=cf r l k+(at0 r a.2-at0 r a.1-1):=by rw[cf,Y]
   rcases K:ff r a with _|_
   ·rw[ff,qJ]at K;refine ac kO (aE Y e1 q Z) aa ?_;refine⟨k+1,?_,kN (ai hss @kH) [],?_⟩
    ·exact⟨xA,b9 E Y (by rw[ff,qJ];exact K)⟩
    ·omega
   ·have T:l.any (ff r)=true:=dk Y K;rw[ff,uG]at K;rw[C,if_pos T];refine ac kO (aE Y e1 q Z) aa ?_;refine⟨_,rfl,⟨_,_,_,_,rfl,?_⟩,ap ?_,trivial⟩
    ·simp(disch:=omega) only[go_sem,simprocAttr,toD];rfl
    ·rfl
  ·have:k=l.length:=xA;subst this;have T:l.any (ff r)=false:=d6 λ j y hj=>E j y xA
   rw[C,if_neg (by rw[T];decide)];by_cases H:512<(n:Int)+cf r l l.length
   ·rw[if_pos H];refine ac kO aa aa ?_;refine⟨_,rfl,⟨_,_,_,_,rfl,?_⟩,ap ?_,trivial⟩
    ·simp(disch:=omega) only[go_sem,simprocAttr,toD];rfl
    ·rfl
   ·rw[if_neg H];have R:∀(k:Nat) a,l[k]? =some a->0<=at0 r a.2-at0 r a.1-1:=λ k a Y=>by
     have:=qH.1 T a (uA Y);rw[ff,uG]at this;omega
    rcases qO n with hn0|hn0
    ·subst hn0;have hl0:l=[]:=by
      cases l with
      |nil=>rfl
      |cons a l=>have:=g4 0 a rfl;omega
     have hr0:r=[]:=gQ.1 Z;subst hl0 hr0;have hs0:cf [] [] 0=0:=rfl;refine ac kO (ae hs0) aa ?_;refine aq (λ(i:Nat)=>True) (λ i=>[(1, .d (aj [])),(2, .ptr 2 0 0 0),(4, .ptr 4 0 0 0),(10, .ptr 10 0 0 0),(80, .d (aj [])),(81, .int 0),(82, .int i)]) (λ i=>[(2, .cells [.int 0, .d (aw [])]),(4, .cells [.int 0, .nilS, .nilS, .nilS]),(10, .cells [.int 0, .nilS, .nilS, .nilS])]) (λ i=>0) 0 ?_ ?_ ?_
     ·trivial
     ·exact kN aa []
     ·intro i _;refine ac kO aa aa ?_;refine aq (λ(e:Nat)=>True) (λ e=>[(1, .d (aj [])),(2, .ptr 2 0 0 0),(4, .ptr 4 0 0 0),(10, .ptr 10 0 0 0),(13, .int 0),(103, .d (aw [])),(104, .int 0),(105, .int e)]) (λ e=>[(2, .cells [.int 0, .d (aw [])]),(4, .cells [.int 0, .nilS, .nilS, .nilS]),(10, .cells [.int 0, .nilS, .nilS, .nilS])]) (λ e=>0) 0 ?_ ?_ ?_
      ·trivial
      ·exact kN aa []
      ·intro e _;refine ac kO aa aa ?_;refine⟨_,rfl,⟨_,_,_,_,rfl,?_⟩,ap ?_,trivial⟩
       ·simp(disch:=omega) only[go_sem,simprocAttr,toD];rfl
       ·rfl
    ·have hmx:=Ji r xA;obtain⟨N,hN⟩:∃N:Nat,eS r (r.length-1)=(N:Int)-1:=⟨(eS r (r.length-1)+1).toNat,by have:=pP r (r.length-1) 0 xA;have:=J 0;omega⟩;have hNle:=tI (λ j=>(J j).2) (r.length-1);have I:=pP r (r.length-1);have hN0:=I 0 xA;have h50:=J 0;rw[hN]at hmx hNle hN0;have hrk:∀v:Nat,v<n->at0 r v<N:=λ v hv=>by have:=I v xA;omega
     have allR_len:∀e,e<=l.length->(aX r l e).length<=512:=λ e z=>by
      have h1:=sW R e z;have h2:=H9 R l.length e z;omega
     refine ac kO (ae @Int.sub_add_cancel) (ae hmx) ?_;refine aC _ (dm 10 2 901 2 rfl rfl rfl) ?_;refine aC _ (dm 10 3 902 1 rfl rfl rfl) ?_;refine aC _ (rp 1 78 1 N rfl (λ i hi=>by simp(disch:=omega) only[go_sem,simprocAttr,rT,iX]) xC xC) ?_;refine dR (λ(i:Nat)=>i<=n) (λ i=>[(1, .d (aj r)),(2, .ptr 2 0 0 0),(4, .ptr 4 0 0 0),(10, .ptr 10 0 0 0),(80, .d (aj r)),(81, .int n),(82, .int i)]) (λ i=>[⟨1,78,1,N,λ k=>(bY (r.take i) k).map D.int⟩]) (λ i=>[(2, .cells [.int n, .d (aw l)]),(4, .cells [.int 0, .nilS, .nilS, .nilS]),(10, .cells [.int n, .ref 78 1 0 N N, .ref 901 2 0 0 0, .ref 902 1 0 0 0]),(901, .row 2 []),(902, .row 1 [])]) (λ i=>n-i) 0 ?_ ?_ ?_
     ·exact uF _
     ·refine kF (ae Z) [] [] ?_;exact cK (av @bY.eq_1 @jX @kV.{0})
     ·intro i hi;rcases uD i n with hin|hin
      ·have gi:=aK (r:=r) (i:=i) xA;have f1:=J i;have f2:=hrk i hin;obtain⟨p,s⟩:∃p:Nat,at0 r i=p:=⟨(at0 r i).toNat,xA⟩;have hpN:p<N:=xA;have U:∀k:Nat,bY (r.take (i+1)) k=if k=p then bY (r.take i) k++[(i:Int)]else bY (r.take i) k:=λ k=>by
        rw[aM gi,wS,s,yA,jF xA];by_cases c:k=p
        ·rw[if_pos xA,if_pos c]
        ·rw[if_neg xA,if_neg c]
       have hll:=rH (r.take i) p;rw[yA]at hll;rw[s]at gi;refine aC _ (jb _ _ [2,4,10,78,901,902] 78 p 900 1 1 N (by first|rfl|(simp(disch:=omega) only[go_sem,simprocAttr];done)|(simp(disch:=omega) only[go_sem,simprocAttr];rfl)) (by first|(simp(disch:=omega) only[go_sem,simprocAttr];done)|(simp(disch:=omega) only[go_sem,simprocAttr];rfl)) (by first|(simp(disch:=omega) only[go_sem,simprocAttr];done)|(simp(disch:=omega) only[go_sem,simprocAttr];rfl)) (λ i hi V=>by simp(disch:=omega) only[go_sem,simprocAttr,V];(repeat' split)<;>exact .ref _ _ _ _ _ ⟨by simp(disch:=omega) only[go_sem,simprocAttr,V],by simp(disch:=omega) only[go_sem,simprocAttr,V]⟩) (by(repeat' first|refine iS ?_|exact iT (ids:=[2,4,10,78,901,902]) rfl rfl (uQ rfl)|refine iR ?_|refine iU ?_|refine iP ?_|refine iV ?_|refine iW ?_|refine iQ (by dsimp only;omega) (by dsimp only;omega) xA xA (uQ rfl) ?_);done) rfl rfl rfl) ?_;refine ac kO (aE gi Z @yE.{0} @aA) aa ?_;refine⟨i+1,?_,kF aa [(fid 1 p,97)] [] ?_,?_⟩
       ·omega
       ·exact fG (bV @U @uO.{0,0} @uH.{0} @uC.{0,0} @uV.{0} @uU.{0} @aA) p
       ·omega
      ·have:i=n:=xA;subst this;have hti:r.take i=aX r l 0:=by rw[uE xA];simp[aX]
       try dsimp only
       rw[hti];refine ac kP aa aa ?_;refine dR (λ(e:Nat)=>e<=l.length) (λ e=>[(1, .d (aj r)),(2, .ptr 2 0 0 0),(4, .ptr 4 0 0 0),(10, .ptr 10 0 0 0),(13, .int (aX r l e).length),(103, .d (aw l)),(104, .int l.length),(105, .int e)]) (λ e=>[⟨1,78,1,N,λ k=>(bY (aX r l e) k).map D.int⟩]) (λ e=>[(2, .cells [.int i, .d (aw l)]),(4, .cells [.int 0, .nilS, .nilS, .nilS]),(10, .cells [.int i, .ref 78 1 0 N N, .ref 901 2 0 (bK r l e).length (bK r l e).length, .ref 902 1 0 (ci r l e).length (ci r l e).length]),(901, .row 2 ((bK r l e).map bo)),(902, .row 1 ((ci r l e).map aj))]) (λ e=>l.length-e) 0 ?_ ?_ ?_
       ·exact uF _
       ·refine kF (aQ @aX.eq_1 @yQ.{0} @kI.{0,0} @yS.{0} Z) [] [] ?_;exact cK aa
       ·intro e z;rcases uD e l.length with hel|hel
        ·obtain⟨a,Y⟩:=ak hel;have Q:=g4 e a Y;have hga:=R e a Y;have e1:=fP (r:=r) (v:=a.1) Q.1 xA;have q:=fP (r:=r) (v:=a.2) Q.2.2.1 xA;have f1:=J a.1.toNat;have f2:=hrk a.2.toNat xA;rw[show((a.1.toNat:Nat):Int)=a.1 by omega]at f1;rw[show((a.2.toNat:Nat):Int)=a.2 by omega]at f2;have hgn:(bc r a:Int)=at0 r a.2-at0 r a.1-1:=by rw[bc];omega
         have O:=o8 (r:=r) Y;have hal:=allR_len e z;generalize hA:aX r l e=all at hal O;refine ac (cE (Nat.beq 111) (b:=false)) (av Y e1 Z) aa ?_;refine dR (λ(u:Nat)=>u<=bc r a) (λ u=>[(1, .d (aj r)),(2, .ptr 2 0 0 0),(4, .ptr 4 0 0 0),(10, .ptr 10 0 0 0),(13, .int (all.length+u)),(15, .ptr 15 0 0 0),(16, .ref 903 1 0 (u+1) (u+1)),(17, .int (at0 r a.1+1+u)),(103, .d (aw l)),(104, .int l.length),(105, .int e)]) (λ u=>[⟨1,78,1,N,λ k=>(bY (all++aJ r a u) k).map D.int⟩]) (λ u=>[(2, .cells [.int i, .d (aw l)]),(4, .cells [.int 0, .nilS, .nilS, .nilS]),(15, .cells [.int a.1, .int a.2]),(10, .cells [.int i, .ref 78 1 0 N N, .ref 901 2 0 (bK r l e).length (bK r l e).length, .ref 902 1 0 (ci r l e).length (ci r l e).length]),(901, .row 2 ((bK r l e).map bo)),(902, .row 1 ((ci r l e).map aj)),(903, .row 1 ((eH all.length a u).map D.int))]) (λ u=>bc r a-u) 0 ?_ ?_ ?_
         ·exact uF _
         ·refine kF (aQ @eH.eq_1 @aJ.eq_1 @jX @yS.{0} hA) [] [(903,111)] ?_;exact cK (aE @aJ.eq_1 @jX @yS.{0} hA)
         ·intro u hu;rcases uD u (bc r a)with hul|hul
          ·obtain⟨p,s⟩:∃p:Nat,at0 r a.1+1+u=p:=⟨(at0 r a.1+1+u).toNat,xA⟩;have hpN:p<N:=xA;have hlen:(all++aJ r a u).length=all.length+u:=by rw[uH,nC]
           have U:∀k:Nat,bY (all++aJ r a (u+1)) k=if k=p then bY (all++aJ r a u) k++[(all.length:Int)+u]else bY (all++aJ r a u) k:=λ k=>by
            rw[xp,<-qG,wS,s,hlen,qQ];by_cases c:k=p
            ·rw[if_pos xA,if_pos c]
            ·rw[if_neg xA,if_neg c]
           have hll:=rH (all++aJ r a u) p;have L:=ot all.length a u;have A:((eH all.length a u).map D.int).take (u+1)=(eH all.length a u).map D.int:=uE (by rw[uC,L];exact uI _);have hcs:=C1 all.length a u;refine aC _ (jb _ _ [2,4,15,10,78,901,902,903] 78 p 900 1 1 N (by first|rfl|(simp(disch:=omega) only[go_sem,simprocAttr];done)|(simp(disch:=omega) only[go_sem,simprocAttr];rfl)) (by first|(simp(disch:=omega) only[go_sem,simprocAttr];done)|(simp(disch:=omega) only[go_sem,simprocAttr];rfl)) (by first|(simp(disch:=omega) only[go_sem,simprocAttr];done)|(simp(disch:=omega) only[go_sem,simprocAttr];rfl)) (λ i hi V=>by simp(disch:=omega) only[go_sem,simprocAttr,V];(repeat' split)<;>exact .ref _ _ _ _ _ ⟨by simp(disch:=omega) only[go_sem,simprocAttr,V],by simp(disch:=omega) only[go_sem,simprocAttr,V]⟩) (by(repeat' first|refine iS ?_|exact iT (ids:=[2,4,15,10,78,901,902,903]) rfl rfl (uQ rfl)|refine iR ?_|refine iU ?_|refine iP ?_|refine iV ?_|refine iW ?_|refine iQ (by dsimp only;omega) (by dsimp only;omega) xA xA (uQ rfl) ?_);done) rfl rfl rfl) ?_;refine ac kO (bV q s Z @yE.{0} @aA L A) aa ?_;refine⟨u+1,?_,eF [(fid 1 p,137)] [(903,142)] _ _ _ (by refine⟨?_,?_⟩<;>(repeat' first|exact fmn|refine fmc ⟨(by first|rfl|(simp(disch:=omega) only[go_sem,simprocAttr,inL,hcs,uO,qQ,gN,<-kH,s];first|done|omega|(congr 1;done))),?_⟩);done) ?_,?_⟩
           ·omega
           ·exact fG (bV @U @uO.{0,0} @uH.{0} @uC.{0,0} @uV.{0} @uU.{0} @aA) p
           ·omega
          ·have:u=bc r a:=xA;subst this;have L:=ot all.length a (bc r a);have A:((eH all.length a (bc r a)).map D.int).take (bc r a+1)=(eH all.length a (bc r a)).map D.int:=uE (by rw[uC,L];exact uI _);have hcd:ba r all.length a=eH all.length a (bc r a)++[a.2]:=rfl;have S:=vK r all.length a;refine ac kP (aE q Z L A) aa ?_;refine dR (λ(j:Nat)=>j<=bc r a+1) (λ j=>[(1, .d (aj r)),(2, .ptr 2 0 0 0),(4, .ptr 4 0 0 0),(10, .ptr 10 0 0 0),(13, .int (all.length+bc r a)),(15, .ptr 15 0 0 0),(16, .ref 903 1 0 (bc r a+2) (bc r a+2)),(18, .int ((j:Int)+1)),(103, .d (aw l)),(104, .int l.length),(105, .int e)]) (λ j=>[⟨1,78,1,N,λ k=>(bY (all++aJ r a (bc r a)) k).map D.int⟩]) (λ j=>[(2, .cells [.int i, .d (aw l)]),(4, .cells [.int 0, .nilS, .nilS, .nilS]),(15, .cells [.int a.1, .int a.2]),(10, .cells [.int i, .ref 78 1 0 N N, .ref 901 2 0 (bK r l e++dF (ba r all.length a) j).length (bK r l e++dF (ba r all.length a) j).length, .ref 902 1 0 (ci r l e).length (ci r l e).length]),(901, .row 2 ((bK r l e++dF (ba r all.length a) j).map bo)),(902, .row 1 ((ci r l e).map aj)),(903, .row 1 ((ba r all.length a).map D.int))]) (λ j=>bc r a+1-j) 0 ?_ ?_ ?_
           ·exact uF _
           ·refine kF (aQ hcd @uO.{0,0} @dF.eq_1 @jX @yS.{0}) [] [(903,149)] ?_;exact cK aa
           ·intro j hj;have hpl:=xM (ba r all.length a) j;have hafl:=s6 R e z;rw[hA]at hafl;rcases uD j (bc r a+1)with hjl|hjl
            ·have gc1:=aK (r:=ba r all.length a) (i:=j) xA;have gc2:=aK (r:=ba r all.length a) (i:=j+1) xA;have en:((j:Int)+1).toNat=j+1:=xA;have hps:=F9 (ba r all.length a) j;have hpa:bo (nG (ba r all.length a) j)= .ag [.int (at0 (ba r all.length a) j), .int (at0 (ba r all.length a) ((j+1:Nat):Int))]:=rfl;have hap:bK r l e++dF (ba r all.length a) (j+1)=(bK r l e++dF (ba r all.length a) j)++[nG (ba r all.length a) j]:=by rw[hps,qG]
             have hal2:(bK r l e++dF (ba r all.length a) j).length<=2000:=by rw[uH];omega
             try dsimp only
             generalize ba r all.length a=c at*;generalize hG:bK r l e++dF c j=G at*;refine ac kO (bq gc1 gc2 en S @Dg @aA) aa ?_;refine⟨j+1,?_,kF (bj hap @uO.{0,0} @uH.{0} @uV.{0} @uU.{0} hpa @qQ @gN) [] [(901,169)] ?_,?_⟩
             ·omega
             ·exact cK aa
             ·omega
            ·have:j=bc r a+1:=xA;subst this;have hcf:ci r l (e+1)=ci r l e++[ba r all.length a]:=by rw[ci,b8,rf,Y,hA];rfl
             have haf:bK r l (e+1)=bK r l e++dF (ba r all.length a) (bc r a+1):=by rw[bK,b8,pi,Y,hA];rfl
             have M:=tg r l e z;have hnl:=nC r a (bc r a);have F:((ba r all.length a).map D.int).take (bc r a+2)=(ba r all.length a).map D.int:=uE (by rw[uC,S];exact uI _);have hcft:((ci r l e).map aj).take e=(ci r l e).map aj:=uE (by rw[uC,M];exact uI _);refine aC _ (Lu _ _ _ 903 1 ((ba r all.length a).map D.int) rfl rfl rfl rfl xC) ?_;refine ac kO (aQ S @uC.{0,0} F M @aA) aa ?_;refine⟨e+1,?_,kF (bj hcf haf O @uO.{0,0} @uH.{0} @uV.{0} @uU.{0} (bV hnl @qQ @gN S F M hcft)) [] [(902,175)] ?_,?_⟩
             ·omega
             ·exact cK (ae O)
             ·omega
        ·have:e=l.length:=xA;subst this
         try dsimp only
         refine aC _ (k6 _ _ _ _ ⟨cc rfl,cc rfl,(by(repeat' first|exact fmn|refine fmc ⟨⟨uQ rfl,uQ rfl,by dsimp only;omega⟩,?_⟩);done)⟩ rfl [2,4,10,78,901,902] rfl rfl rfl rfl) ?_;refine ac kO aa aa ?_;refine⟨_,rfl,⟨_,_,_,_,rfl,?_⟩,ap ?_,trivial⟩
         ·simp(disch:=omega) only[go_sem,simprocAttr,toD];have hNt:(eS r (r.length-1)+1).toNat=N:=xA;rw[aA,aA,if_pos (by rw[kB];exact uI _),uE (by rw[uC,kB];exact uI _)];simp only[ki,lvD,hNt,am,aj,aw,gU];rw[if_neg xA,gU];rfl
         ·rfl
theorem AG (g:Gr)(r:List Int):ah Tryz.prog 49 [gD g,aj r] (.tup [lvD (aO g r).1, .int (aO g r).2]):=by
 rcases h:iC g r with _|_
 ·have:=I9 g r h;have e:aO g r=(lv0,1):=by rw[aO,if_pos h]
  rw[e];exact this
 ·rcases Z:g.2.any g8 with _|_
  ·exact Jb g r h Z
  ·have:=Ja g r h Z;have e:aO g r=(lv0,8):=by rw[aO,if_neg (by rw[h];decide),if_pos Z]
   rw[e];exact this
theorem fb (r:List Int):∀d,d∈List.map D.int r->d.cells.length=1:=by
 intro d h;obtain⟨x,_,rfl⟩:=uR.1 h;rfl
def hiN (r:List Int):Nat->Int
 |0=>-1
 |k+1=>max (hiN r k) (at0 r k)
theorem EE {r:List Int}(h:∀v:Nat,0<=at0 r v):∀k:Nat,hiN r (k+1)=eS r k
 |0=>by
  have Z:=h 0;show max (-1) (at0 r ((0:Nat):Int))=at0 r ((0:Nat):Int);omega
 |k+1=>by rw[hiN,EE h k,eS]
def dq (all:List Int)(k:Nat):List (List Int):=(List.range k).map λ j=>bY all j
theorem Nc (all:List Int)(k:Nat):dq all (k+1)=dq all k++[bY all k]:=by simp[dq,qE]
theorem wT (all:List Int)(k:Nat):(dq all k).length=k:=by simp[dq]
theorem NL (n:Nat)(l:List Arc)(r:List Int)(h:r.length=n)(hn:n<=64)(hl:l.length<=256)(g4:∀(k:Nat) (a:Arc),l[k]? =some a->0<=a.1/\a.1<n/\0<=a.2/\a.2<n)
  (z:∀v:Nat,0<=at0 r v/\at0 r v<=255)(Y:∀(k:Nat) a,l[k]? =some a->0<=at0 r a.2-at0 r a.1-1)(hbig:(n:Int)+cf r l l.length<=512):
  ah Tryz.prog 113 [gD (n,l),aj r] (lvD (ki (n,l) r)):=by
 have allR_len:∀e,e<=l.length->(aX r l e).length<=512:=λ e F=>by
  have h1:=sW Y e F;have h2:=H9 Y l.length e F;omega
 have hA0:aX r l 0=r:=by simp[aX]
 refine kE Tryz.func113 ?_;intro hat B X w0;refine ac (cE (Nat.beq 20) (b:=true)) (ae h) aa ?_;refine aC _ (dm 5 1 905 1 rfl rfl rfl) ?_;refine aC _ (dm 5 2 901 2 rfl rfl rfl) ?_;refine aC _ (dm 5 3 902 1 rfl rfl rfl) ?_;refine aq (λ(e:Nat)=>e<=l.length) (λ e=>[(1, .d (aj r)),(2, .ptr 2 0 0 0),(4, .ptr 4 0 0 0),(5, .ptr 5 0 0 0),(6, .ref 904 1 0 (aX r l e).length (aX r l e).length),(7, .int e)]) (λ e=>[(2, .cells [.int n, .d (aw l)]),(4, .cells [.int 0, .nilS, .nilS, .nilS]),(5, .cells [.int n, .ref 905 1 0 0 0, .ref 901 2 0 (bK r l e).length (bK r l e).length, .ref 902 1 0 (ci r l e).length (ci r l e).length]),(905, .row 1 []),(901, .row 2 ((bK r l e).map bo)),(902, .row 1 ((ci r l e).map aj)),(904, .row 1 ((aX r l e).map D.int))]) (λ e=>l.length-e) 0 ?_ ?_ ?_
 ·exact uF _
 ·exact kN (ai hA0 h) [(904,22)]
 ·intro e F;rcases uD e l.length with hel|hel
  ·obtain⟨a,I⟩:=ak hel;have hai:=g4 e a I;have hga:=Y e a I;have e1:=fP (r:=r) (v:=a.1) hai.1 xA;have e2:=fP (r:=r) (v:=a.2) hai.2.2.1 xA;have f1:=z a.1.toNat;have f2:=z a.2.toNat;rw[show((a.1.toNat:Nat):Int)=a.1 by omega]at f1;rw[show((a.2.toNat:Nat):Int)=a.2 by omega]at f2;have hgn:(bc r a:Int)=at0 r a.2-at0 r a.1-1:=by rw[bc];omega
   have Q:=o8 (r:=r) I;have N:=allR_len e F;have q:=s6 Y e F;generalize hA:aX r l e=all at N Q q
   try dsimp only
   try rw[hA]
   refine ac (cE (Nat.beq 37) (b:=true)) (av I e1 h) aa ?_;refine aq (λ(u:Nat)=>u<=bc r a) (λ u=>[(1, .d (aj r)),(2, .ptr 2 0 0 0),(4, .ptr 4 0 0 0),(5, .ptr 5 0 0 0),(6, .ref 904 1 0 (all.length+u) (all.length+u)),(7, .int e),(8, .ptr 8 0 0 0),(9, .ref 903 1 0 (u+1) (u+1)),(10, .int (at0 r a.1+1+u))]) (λ u=>[(2, .cells [.int n, .d (aw l)]),(4, .cells [.int 0, .nilS, .nilS, .nilS]),(8, .cells [.int a.1, .int a.2]),(5, .cells [.int n, .ref 905 1 0 0 0, .ref 901 2 0 (bK r l e).length (bK r l e).length, .ref 902 1 0 (ci r l e).length (ci r l e).length]),(905, .row 1 []),(901, .row 2 ((bK r l e).map bo)),(902, .row 1 ((ci r l e).map aj)),(904, .row 1 ((all++aJ r a u).map D.int)),(903, .row 1 ((eH all.length a u).map D.int))]) (λ u=>bc r a-u) 0 ?_ ?_ ?_
   ·exact uF _
   ·exact kN (aQ @eH.eq_1 @aJ.eq_1 @jX @yS.{0} hA) [(903,37)]
   ·intro u hu;have S:=ot all.length a u;have R:=nC r a u;have htk:((eH all.length a u).map D.int).take (u+1)=(eH all.length a u).map D.int:=uE (by rw[uC,S];exact uI _);have hta:((all++aJ r a u).map D.int).take (all.length+u)=(all++aJ r a u).map D.int:=uE (by rw[uC,uH,R];exact uI _);rcases uD u (bc r a)with hul|hul
    ·have hcs:=C1 all.length a u;have hns:=xp r a u;have M:all++aJ r a (u+1)=(all++aJ r a u)++[at0 r a.1+1+u]:=by rw[hns,qG]
     have hlu:(all++aJ r a u).length=all.length+u:=by rw[uH,R]
     generalize all++aJ r a u=G at*;generalize eH all.length a u=c at*;refine ac kO (bq e2 h S htk hta hlu) aa ?_;refine⟨u+1,?_,eL [(903,57),(904,61)] _ _ (by refine⟨?_,?_⟩<;>(repeat' first|exact fmn|refine fmc ⟨(by first|rfl|(simp(disch:=omega) only[go_sem,simprocAttr,inL,hcs,M,uO,qQ,gN,<-kH,uH,S,hlu];first|done|omega|(congr 1;done))),?_⟩);done),?_⟩
     ·omega
     ·omega
    ·have:u=bc r a:=xA;subst this;have hcd:ba r all.length a=eH all.length a (bc r a)++[a.2]:=rfl;have Z:=vK r all.length a;refine ac kP (aE e2 h S htk) aa ?_;refine aq (λ(j:Nat)=>j<=bc r a+1) (λ j=>[(1, .d (aj r)),(2, .ptr 2 0 0 0),(4, .ptr 4 0 0 0),(5, .ptr 5 0 0 0),(6, .ref 904 1 0 (all.length+bc r a) (all.length+bc r a)),(7, .int e),(8, .ptr 8 0 0 0),(9, .ref 903 1 0 (bc r a+2) (bc r a+2)),(11, .int ((j:Int)+1))]) (λ j=>[(2, .cells [.int n, .d (aw l)]),(4, .cells [.int 0, .nilS, .nilS, .nilS]),(8, .cells [.int a.1, .int a.2]),(5, .cells [.int n, .ref 905 1 0 0 0, .ref 901 2 0 (bK r l e++dF (ba r all.length a) j).length (bK r l e++dF (ba r all.length a) j).length, .ref 902 1 0 (ci r l e).length (ci r l e).length]),(905, .row 1 []),(901, .row 2 ((bK r l e++dF (ba r all.length a) j).map bo)),(902, .row 1 ((ci r l e).map aj)),(904, .row 1 ((all++aJ r a (bc r a)).map D.int)),(903, .row 1 ((ba r all.length a).map D.int))]) (λ j=>bc r a+1-j) 0 ?_ ?_ ?_
     ·exact uF _
     ·exact kN (aQ hcd @uO.{0,0} @dF.eq_1 @jX @yS.{0}) [(903,66)]
     ·intro j hj;have hpl:=xM (ba r all.length a) j;rcases uD j (bc r a+1)with hjl|hjl
      ·have gc1:=aK (r:=ba r all.length a) (i:=j) xA;have gc2:=aK (r:=ba r all.length a) (i:=j+1) xA;have en:((j:Int)+1).toNat=j+1:=xA;have hps:=F9 (ba r all.length a) j;have hpa:bo (nG (ba r all.length a) j)= .ag [.int (at0 (ba r all.length a) j), .int (at0 (ba r all.length a) ((j+1:Nat):Int))]:=rfl;have M:bK r l e++dF (ba r all.length a) (j+1)=(bK r l e++dF (ba r all.length a) j)++[nG (ba r all.length a) j]:=by rw[hps,qG]
       have hal2:(bK r l e++dF (ba r all.length a) j).length<=2000:=by rw[uH];omega
       try dsimp only
       generalize ba r all.length a=c at*;generalize hG:bK r l e++dF c j=G at*;refine ac kO (bq gc1 gc2 en Z @Dg @aA) aa ?_;refine⟨j+1,?_,kN (bj M @uO.{0,0} @uH.{0} @uV.{0} @uU.{0} hpa @qQ @gN) [(901,86)],?_⟩
       ·omega
       ·omega
      ·have:j=bc r a+1:=xA;subst this;have hcf:ci r l (e+1)=ci r l e++[ba r all.length a]:=by rw[ci,b8,rf,I,hA];rfl
       have haf:bK r l (e+1)=bK r l e++dF (ba r all.length a) (bc r a+1):=by rw[bK,b8,pi,I,hA];rfl
       have U:=tg r l e F;have R:=nC r a (bc r a);have O:((ba r all.length a).map D.int).take (bc r a+2)=(ba r all.length a).map D.int:=uE (by rw[uC,Z];exact uI _);have hcft:((ci r l e).map aj).take e=(ci r l e).map aj:=uE (by rw[uC,U];exact uI _);refine aC _ (fo 903 1 ((ba r all.length a).map D.int) rfl (fa _ rfl) xC) ?_;refine ac kO (aQ Z @uC.{0,0} O U @aA) aa ?_;refine⟨e+1,?_,kN (bj hcf haf Q @uO.{0,0} @uH.{0} @uV.{0} @uU.{0} (bV R @qQ @gN Z O U hcft)) [(902,92)],?_⟩
       ·omega
       ·omega
  ·have:e=l.length:=xA;subst this;have N:=allR_len l.length (uI _);have hmd:ki (n,l) r=((n:Int),if(n:Int)=0 then[]else(List.range (eS r (r.length-1)+1).toNat).map λ k=>bY (aX r l l.length) k,bK r l l.length,ci r l l.length):=rfl;rw[hmd];generalize aX r l l.length=A at N|-;generalize bK r l l.length=E;generalize ci r l l.length=C;refine ac kO aa aa ?_;refine aq (λ(v:Nat)=>v<=n) (λ v=>[(1, .d (aj r)),(2, .ptr 2 0 0 0),(4, .ptr 4 0 0 0),(5, .ptr 5 0 0 0),(6, .ref 904 1 0 A.length A.length),(12, .int (hiN r v)),(13, .int v)]) (λ v=>[(2, .cells [.int n, .d (aw l)]),(4, .cells [.int 0, .nilS, .nilS, .nilS]),(5, .cells [.int n, .ref 905 1 0 0 0, .ref 901 2 0 E.length E.length, .ref 902 1 0 C.length C.length]),(905, .row 1 ([])),(901, .row 2 (E.map bo)),(902, .row 1 (C.map aj)),(904, .row 1 (A.map D.int))]) (λ v=>n-v) 0 ?_ ?_ ?_
   ·exact uF _
   ·exact kN (ae @hiN.eq_1) []
   ·intro v hv;rcases uD v n with hvn|hvn
    ·have gv:=aK (r:=r) (i:=v) xA;refine ac kO (ai gv h) aa ?_;refine⟨v+1,?_,kN (ai @hiN.eq_1 @lR) [],?_⟩
     ·omega
     ·omega
    ·have:n=v:=xA;subst this;obtain⟨H,hH⟩:∃H:Nat,hiN r n+1=H/\H<=256/\(if(n:Int)=0 then[]else(List.range (eS r (r.length-1)+1).toNat).map λ k=>bY A k)=dq A H:=by
      rcases qO n with h0|h0
      ·refine⟨0,?_,xA,?_⟩
       ·rw[h0,hiN];rfl
       ·rw[if_pos xA];rfl
      ·obtain⟨m,rfl⟩:∃m,n=m+1:=⟨n-1,xA⟩;have e1:=EE (λ v=>(z v).1) m;have e2:=tI (λ j=>(z j).2) m;have e3:=pP r m 0 xA;have e4:=z 0;refine⟨(eS r m+1).toNat,xA,xA,?_⟩;rw[if_neg xA,h,Av];rfl
     obtain⟨hH,hH2,hH3⟩:=hH;rw[hH3];generalize hiN r n=hi at hH|-;refine ac kO aa aa ?_;refine aq (λ(k:Nat)=>k<=H) (λ k=>[(1, .d (aj r)),(2, .ptr 2 0 0 0),(4, .ptr 4 0 0 0),(5, .ptr 5 0 0 0),(6, .ref 904 1 0 A.length A.length),(12, .int hi),(14, .int k)]) (λ k=>[(2, .cells [.int n, .d (aw l)]),(4, .cells [.int 0, .nilS, .nilS, .nilS]),(5, .cells [.int n, .ref 905 1 0 k k, .ref 901 2 0 E.length E.length, .ref 902 1 0 C.length C.length]),(905, .row 1 ((dq A k).map aj)),(901, .row 2 (E.map bo)),(902, .row 1 (C.map aj)),(904, .row 1 (A.map D.int))]) (λ k=>H-k) 0 ?_ ?_ ?_
     ·exact uF _
     ·exact kN (av @dq.eq_1 @jX @uY.{0,0}) []
     ·intro k hk;rcases uD k H with hkH|hkH
      ·have V:=wT A k;refine ac kO aa aa ?_;refine aC _ (dg 15 906 1 rfl rfl) ?_;refine aq (λ(i:Nat)=>i<=A.length) (λ i=>[(1, .d (aj r)),(2, .ptr 2 0 0 0),(4, .ptr 4 0 0 0),(5, .ptr 5 0 0 0),(6, .ref 904 1 0 A.length A.length),(12, .int hi),(14, .int k),(15, .ref 906 1 0 (bY (A.take i) k).length (bY (A.take i) k).length),(16, .int i)]) (λ i=>[(2, .cells [.int n, .d (aw l)]),(4, .cells [.int 0, .nilS, .nilS, .nilS]),(5, .cells [.int n, .ref 905 1 0 k k, .ref 901 2 0 E.length E.length, .ref 902 1 0 C.length C.length]),(905, .row 1 ((dq A k).map aj)),(901, .row 2 (E.map bo)),(902, .row 1 (C.map aj)),(904, .row 1 (A.map D.int)),(906, .row 1 ((bY (A.take i) k).map D.int))]) (λ i=>A.length-i) 0 ?_ ?_ ?_
       ·exact uF _
       ·exact kN (bq @bY.eq_1 @yQ.{0} @jX @uU.{0} @kV.{0} @uY.{0,0}) []
       ·intro i hi2;have K:=rH (A.take i) k;rw[yA]at K;rcases uD i A.length with hiA|hiA
        ·have gi:=aK hiA;have T:bY (A.take (i+1)) k=if at0 A i=k then bY (A.take i) k++[(i:Int)]else bY (A.take i) k:=by
          rw[aM gi,wS,yA,jF xA]
         generalize bY (A.take i) k=L at T K|-;by_cases hx:at0 A i=k
         ·rw[if_pos hx]at T;refine ac kO (av gi hx @aA) aa ?_;refine⟨i+1,?_,kN (aQ T @uO.{0,0} @uH.{0} @uV.{0} @uU.{0}) [(906,126)],?_⟩
          ·omega
          ·omega
         ·rw[if_neg hx]at T;refine ac kO (ai gi @aA) aa ?_;refine⟨i+1,?_,kN (ae T) [],?_⟩
          ·omega
          ·omega
        ·have:i=A.length:=xA;subst this;have s:A.take A.length=A:=yE;rw[s]at K;have hls:=Nc A k;have J:((dq A k).map aj).take k=(dq A k).map aj:=uE (by rw[uC,V];exact uI _)
         try dsimp only
         rw[s];refine aC _ (fo 906 1 ((bY A k).map D.int) rfl (fa _ rfl) xC) ?_;refine ac kO (av @uC.{0,0} V @aA) aa ?_;refine⟨k+1,?_,kN (bj hls @uO.{0,0} @uH.{0} @uV.{0} @uU.{0} V J (ai @qQ @gN)) [(905,131)],?_⟩
         ·omega
         ·omega
      ·have:k=H:=xA;subst this;have V:=wT A k;refine ac kO aa aa ?_;have J:((dq A k).map aj).take k=(dq A k).map aj:=uE (by rw[uC,V];exact uI _);refine⟨_,_,_,_,rfl,?_⟩;simp(disch:=omega) only[go_sem,simprocAttr,toD,V,J,aA]
theorem PX (g:Gr)(r:List Int)(h:gOk g=false\/(r.length:Int)≠g.1):ah Tryz.prog 55 [gD g,aj r] (.tup [lvD lv0, .int 1]):=by
 have Y:=p6 g;rcases V:gOk g with _|_<;>rw[V]at Y
 ·refine kE Tryz.func55 ?_;intro Z B X S;refine ac kO aa (ae Y) ?_
  all_goals
   refine⟨_,rfl,⟨_,_,_,_,rfl,?_⟩,ap ?_,trivial⟩
   ·simp(disch:=omega) only[go_sem,simprocAttr,toD];rfl
   ·rfl
 ·have U:(r.length:Int)≠g.1:=by
   rcases h with h|h
   ·rw[V]at h;exact absurd h xC
   ·exact h
  refine kE Tryz.func55 ?_;intro Z B X S;have T:=bI 1 Z rfl;rw[uC]at T;refine ac kO (ae U) (ae Y) ?_
  all_goals
   refine⟨_,rfl,⟨_,_,_,_,rfl,?_⟩,ap ?_,trivial⟩
   ·simp(disch:=omega) only[go_sem,simprocAttr,toD];rfl
   ·rfl
theorem PY (g:Gr)(r:List Int)(F:gOk g=true)(h2:(r.length:Int)=g.1):ah Tryz.prog 55 [gD g,aj r] (.tup [lvD (aO g r).1, .int (aO g r).2]):=by
 have hv:=p6 g;obtain⟨g1,g2,b,H⟩:=rx F;have V:aO g r=if r.any fI then(lv0,1)else if g.2.any g8 then(lv0,8)else if g.2.any (ff r)then(lv0,3)else if 512<g.1+cf r g.2 g.2.length then(lv0,2)else(ki g r,0):=by
  rw[aO,iC,F];cases r.any fI<;>simp[h2]
 rw[F]at hv;obtain⟨m,l⟩:=g;dsimp only at g1 g2 b H h2 V;obtain⟨n,rfl⟩:∃n:Nat,m=n:=⟨m.toNat,xA⟩;have T:r.length=n:=xA;refine kE Tryz.func55 ?_;intro hat B X w0;refine ac kO (ae T) (ae hv) ?_;refine aq (λ(k:Nat)=>k<=n/\∀(j:Nat) y,j<k->r[j]? =some y->fI y=false) (λ k=>[(1, .d (aj r)),(2, .ptr 2 0 0 0),(4, .ptr 4 0 0 0),(6, .int k)]) (λ k=>[(2, .cells [.int n, .d (aw l)]),(4, .cells [.int 0, .nilS, .nilS, .nilS])]) (λ k=>n-k) 0 ?_ ?_ ?_
 ·exact⟨uF _,λ j y h=>xA⟩
 ·exact kN aa []
 ·rintro k ⟨hk,Y⟩;rcases uD k n with R|K
  ·have G:=aK (r:=r) (i:=k) xA;rcases Q:fI (at0 r k)with _|_
   ·have hb:0<=at0 r k/\at0 r k<=255:=by
     simp only[fI,qJ]at Q;omega
    refine ac kO (ai G T) aa ?_;refine⟨k+1,?_,kN aa [],?_⟩
    ·exact⟨xA,b9 Y G Q⟩
    ·omega
   ·have Z:r.any fI=true:=dk G Q;rw[V,if_pos Z];simp only[fI,uG]at Q;refine kw kO (ai G T) aa ?_
    repeat' first|exact True.intro|refine Bn.mk ?_ ?_|intro hc
    all_goals
     refine⟨_,rfl,⟨_,_,_,_,rfl,?_⟩,ap ?_,trivial⟩
     ·simp(disch:=omega) only[go_sem,simprocAttr,toD];rfl
     ·rfl
  ·have:n=k:=xA;subst this;have Z:r.any fI=false:=d6 λ j y hj=>Y j y xA
   have A:iC ((n:Int),l) r=true:=by simp[iC,F,T,Z]
   obtain⟨_,_,_,E⟩:=ud A;have J:=zg (r:=r) (l:=l) E (λ k a U=>by have:=H k a U;omega);rw[Z]at V;simp only[qK,jH]at V;refine ac kO aa aa ?_;refine aq (λ(k:Nat)=>k<=l.length/\∀(j:Nat) y,j<k->l[j]? =some y->g8 y=false) (λ k=>[(1, .d (aj r)),(2, .ptr 2 0 0 0),(4, .ptr 4 0 0 0),(7, .int k)]) (λ k=>[(2, .cells [.int n, .d (aw l)]),(4, .cells [.int 0, .nilS, .nilS, .nilS])]) (λ k=>l.length-k) 0 ?_ ?_ ?_
   ·exact⟨uF _,λ j y h=>xA⟩
   ·exact kN aa []
   ·rintro k ⟨hk,Y⟩;rcases uD k l.length with R|K
    ·obtain⟨a,U⟩:=ak R;rcases S:g8 a with _|_
     ·have C:¬a.1=a.2:=by simpa[g8]using S
      refine ac kO (ae U) aa ?_;refine⟨k+1,?_,kN aa [],?_⟩
      ·exact⟨xA,b9 Y U S⟩
      ·omega
     ·have Z:l.any g8=true:=dk U S;have C:a.1=a.2:=by simpa[g8]using S
      rw[V,if_pos Z];refine ac kO (ae U) aa ?_;refine⟨_,rfl,⟨_,_,_,_,rfl,?_⟩,ap ?_,trivial⟩
      ·simp(disch:=omega) only[go_sem,simprocAttr,toD];rfl
      ·rfl
    ·have:k=l.length:=xA;subst this;have Z:l.any g8=false:=d6 λ j y hj=>Y j y xA
     rw[Z]at V;simp only[qK,jH]at V;refine ac kO aa aa ?_;refine aq (λ(k:Nat)=>k<=l.length/\∀(j:Nat) y,j<k->l[j]? =some y->ff r y=false) (λ k=>[(1, .d (aj r)),(2, .ptr 2 0 0 0),(4, .ptr 4 0 0 0),(8, .int (n+cf r l k)),(9, .int k)]) (λ k=>[(2, .cells [.int n, .d (aw l)]),(4, .cells [.int 0, .nilS, .nilS, .nilS])]) (λ k=>l.length-k) 0 ?_ ?_ ?_
     ·exact⟨uF _,λ j y h=>xA⟩
     ·exact kN (ai @cf.eq_1 @jM) []
     ·rintro k ⟨hk,Y⟩;have hsk:=J k;rcases uD k l.length with R|K
      ·obtain⟨a,U⟩:=ak R;have M:=H k a U;have s:=fP (r:=r) (v:=a.1) M.1 xA;have q:=fP (r:=r) (v:=a.2) M.2.2.1 xA;have f1:=E a.1.toNat;have f2:=E a.2.toNat;rw[show((a.1.toNat:Nat):Int)=a.1 by omega]at f1;rw[show((a.2.toNat:Nat):Int)=a.2 by omega]at f2;have z:cf r l (k+1)=cf r l k+(at0 r a.2-at0 r a.1-1):=by rw[cf,U]
       rcases O:ff r a with _|_
       ·have I:=O;rw[ff,qJ]at I;refine ac kO (aE U s q T) aa ?_;refine⟨k+1,?_,kN (ai z @kH) [],?_⟩
        ·exact⟨xA,b9 Y U O⟩
        ·omega
       ·have Z:l.any (ff r)=true:=dk U O;rw[ff,uG]at O;rw[V,if_pos Z];refine ac kO (aE U s q T) aa ?_;refine⟨_,rfl,⟨_,_,_,_,rfl,?_⟩,ap ?_,trivial⟩
        ·simp(disch:=omega) only[go_sem,simprocAttr,toD];rfl
        ·rfl
      ·have:k=l.length:=xA;subst this;have Z:l.any (ff r)=false:=d6 λ j y hj=>Y j y xA
       rw[V,if_neg (by rw[Z];decide)];by_cases N:512<(n:Int)+cf r l l.length
       ·rw[if_pos N];refine ac kO aa aa ?_;refine⟨_,rfl,⟨_,_,_,_,rfl,?_⟩,ap ?_,trivial⟩
        ·simp(disch:=omega) only[go_sem,simprocAttr,toD];rfl
        ·rfl
       ·rw[if_neg N];have L:∀(k:Nat) a,l[k]? =some a->0<=at0 r a.2-at0 r a.1-1:=λ k a U=>by
         have:=qH.1 Z a (uA U);rw[ff,uG]at this;omega
        have hm:=NL n l r T xA b H E L xA;refine ac kO aa (ae hm) ?_;refine⟨_,rfl,⟨_,_,_,_,rfl,?_⟩,ap ?_,trivial⟩
        ·simp(disch:=omega) only[go_sem,simprocAttr,toD]
        ·rfl
theorem GH (g:Gr)(r:List Int):ah Tryz.prog 55 [gD g,aj r] (.tup [lvD (aO g r).1, .int (aO g r).2]):=by
 by_cases h:gOk g=true/\(r.length:Int)=g.1
 ·exact PY g r h.1 h.2
 ·have X:iC g r=false:=by
   rw[iC];rcases Y:gOk g with _|_
   ·simp
   ·have Z:¬(r.length:Int)=g.1:=λ Z=>h ⟨Y,Z⟩
    simp[Z]
  have e:aO g r=(lv0,1):=by rw[aO,if_pos X]
  rw[e];refine PX g r ?_;rcases Y:gOk g with _|_
  ·exact .inl rfl
  ·exact .inr λ Z=>h ⟨Y,Z⟩
theorem Hz (l m:List Int):ah Tryz.prog 140 [aj l,aj m] (.bool (decide (l=m))):=by
 refine kE Tryz.func140 ?_;intro Z B X M;have Q:=bI 0 Z rfl;have O:=bI 1 Z rfl;rw[uC]at Q O;by_cases Y:l.length=m.length
 ·refine ac kO aa aa ?_;refine aq (λ(k:Nat)=>k<=l.length/\l.take k=m.take k) (λ k=>[(0, .d (aj l)),(1, .d (aj m)),(5, .int k)]) (λ k=>[]) (λ k=>l.length-k) 0 ?_ ?_ ?_
  ·exact⟨uF _,rfl⟩
  ·exact kN aa []
  ·rintro k ⟨N,h⟩;rcases uD k l.length with V|U
   ·obtain⟨p,T⟩:=ak V;obtain⟨q,S⟩:=ak (Y▸V);refine kw kO (ai T S) aa ?_
    repeat' first|exact True.intro|refine Bn.mk ?_ ?_|intro R
    ·refine ay ?_;rw[uW (mP T S R)]
    ·refine⟨k+1,?_,eL [] _ _ (by refine⟨?_,?_⟩<;>(repeat' first|exact fmn|refine fmc ⟨(by first|rfl|(simp(disch:=omega) only[go_sem,simprocAttr,inL];first|done|omega|(congr 1;done))),?_⟩);done),?_⟩
     ·exact⟨xA,by rw[aM T,aM S,h,R]⟩
     ·omega
   ·refine ac kO aa aa ?_;refine ay ?_;rw[uE U,uE xA]at h;simp[h]
 ·refine ac kO aa aa ?_;refine ay ?_;rw[uW];rintro rfl;exact Y rfl
theorem HB (l m:List (List Int)):ah Tryz.prog 83 [am l,am m] (.bool (decide (l=m))):=by
 refine kE Tryz.func83 ?_;intro Y B X L;have O:=bI 0 Y rfl;have N:=bI 1 Y rfl;rw[uC]at O N;by_cases V:l.length=m.length
 ·refine ac kO aa aa ?_;refine aq (λ(k:Nat)=>k<=l.length/\l.take k=m.take k) (λ k=>[(0, .d (am l)),(1, .d (am m)),(5, .int k)]) (λ k=>[]) (λ k=>l.length-k) 0 ?_ ?_ ?_
  ·exact⟨uF _,rfl⟩
  ·exact kN aa []
  ·rintro k ⟨M,h⟩;rcases uD k l.length with U|Q
   ·obtain⟨p,S⟩:=ak U;obtain⟨q,R⟩:=ak (V▸U);have T:=Hz p q;by_cases Z:p=q
    ·rw[uZ Z]at T;refine ac kO (ai S R) (ae T) ?_;refine⟨k+1,?_,kN aa [],?_⟩
     ·exact⟨xA,by rw[aM S,aM R,h,Z]⟩
     ·omega
    ·rw[uW Z]at T;refine ac kO (ai S R) (ae T) ?_;refine ay ?_;rw[uW (mP S R Z)]
   ·refine ac kO aa aa ?_;refine ay ?_;rw[uE Q,uE xA]at h;simp[h]
 ·refine ac kO aa aa ?_;refine ay ?_;rw[uW];rintro rfl;exact V rfl
theorem Hx (l m:List (List Int)):ah Tryz.prog 171 [am l,am m] (.bool (decide (l=m))):=by
 have h:=Ly l m;refine kE Tryz.func171 ?_;intro Z B X Y;refine ac kO aa (ae h) ?_;exact ay rfl
def jn (a b:Lv):Bool:=decide (a.1=b.1)&&decide (a.2.1=b.2.1)&&decide (a.2.2.1=b.2.2.1)&&decide (a.2.2.2=b.2.2.2)
theorem qb {a b:Lv}:jn a b=true↔a=b:=by
 obtain⟨Z,Y,X,V⟩:=a;obtain⟨U,T,S,R⟩:=b;simp[jn,Prod.ext_iff,and_assoc]
theorem Js (a b:Lv):ah Tryz.prog 107 [lvD a,lvD b] (.bool (jn a b)):=by
 have h:=Hx a.2.1 b.2.1;have Z:=Lz a.2.2.1 b.2.2.1;have Y:=Hx a.2.2.2 b.2.2.2;rw[jn];by_cases e:a.1=b.1
 ·rw[uZ e];rcases U:decide (a.2.1=b.2.1)with _|_<;>rw[U]at h<;>rcases T:decide (a.2.2.1=b.2.2.1)with _|_<;>rw[T]at Z<;>rcases S:decide (a.2.2.2=b.2.2.2)with _|_<;>rw[S]at Y
  all_goals
   refine kE Tryz.func107 ?_;intro V B X R;refine ac kO (ae e) (av h Z Y) ?_;exact ay rfl
 ·rw[uW e];refine kE Tryz.func107 ?_;intro V B X R;refine ac kO (ae e) (av h Z Y) ?_;exact ay rfl
theorem ya (a b:Lv):ah Tryz.prog 35 [lvD a,lvD b] (.bool (jn a b)):=by
 have Q:=HB a.2.1 b.2.1;have O:=HB a.2.2.2 b.2.2.2;obtain⟨S,K,U,J⟩:=a;obtain⟨M,I,R,H⟩:=b;dsimp only[jn]at*;have F:∀x:Bool,x=false->ah Tryz.prog 35 [lvD (S,K,U,J),lvD (M,I,R,H)] (.bool false)->ah Tryz.prog 35 [lvD (S,K,U,J),lvD (M,I,R,H)] (.bool x):=λ x hx h=>hx▸h
 by_cases e:S=M/\U.length=R.length
 ·obtain⟨rfl,G⟩:=e;rcases s:decide (K=I)with _|_
  ·rw[s]at Q;refine F _ xB ?_;refine kE Tryz.func35 ?_;intro Z B X z;have Y:=cO 0 2 Z rfl rfl;have V:=cO 1 2 Z rfl rfl;rw[uC]at Y V;dsimp only at Y V;refine ac kO (ae G) (ai Q O) ?_;exact ay rfl
  ·rw[s]at Q;rcases e4:decide (J=H)with _|_
   ·rw[e4]at O;refine F _ xB ?_;refine kE Tryz.func35 ?_;intro Z B X z;have Y:=cO 0 2 Z rfl rfl;have V:=cO 1 2 Z rfl rfl;rw[uC]at Y V;dsimp only at Y V;refine ac kO (ae G) (ai Q O) ?_;exact ay rfl
   ·rw[e4]at O;have er:(decide (S=S)&&true&&decide (U=R)&&true)=decide (U=R):=xB;rw[er];refine kE Tryz.func35 ?_;intro Z B X z;have Y:=cO 0 2 Z rfl rfl;have V:=cO 1 2 Z rfl rfl;rw[uC]at Y V;dsimp only at Y V;refine ac kO (ae G) (ai Q O) ?_;refine aq (λ(k:Nat)=>k<=U.length/\U.take k=R.take k) (λ k=>[(2, .ptr 2 0 0 0),(3, .ptr 3 0 0 0),(5, .int k)]) (λ k=>[(2, .cells [.int S, .d (am K), .d (aw U), .d (am J)]),(3, .cells [.int S, .d (am I), .d (aw R), .d (am H)])]) (λ k=>U.length-k) 0 ?_ ?_ ?_
    ·exact⟨uF _,rfl⟩
    ·exact kN aa []
    ·rintro k ⟨hk,T⟩;rcases uD k U.length with L|E
     ·obtain⟨p,C⟩:=ak L;obtain⟨q,A⟩:=ak (G▸L);refine kw kO (av C A @BR) aa ?_
      repeat' first|exact True.intro|refine Bn.mk ?_ ?_|intro hc
      ·refine ay ?_;rw[uW (mP C A hc)]
      ·refine⟨k+1,?_,eL [] _ _ (by refine⟨?_,?_⟩<;>(repeat' first|exact fmn|refine fmc ⟨(by first|rfl|(simp(disch:=omega) only[go_sem,simprocAttr,inL];first|done|omega|(congr 1;done))),?_⟩);done),?_⟩
       ·exact⟨xA,by rw[aM C,aM A,T,hc]⟩
       ·omega
     ·refine ac kO aa aa ?_;refine ay ?_;rw[uE E,uE xA]at T;simp[T]
 ·refine F _ ?_ ?_
  ·rcases gJ (S=M)with h|h
   ·have N:¬U=R:=λ N=>e ⟨h,by rw[N]⟩
    simp[N]
   ·simp[h]
  ·refine kE Tryz.func35 ?_;intro Z B X z;have Y:=cO 0 2 Z rfl rfl;have V:=cO 1 2 Z rfl rfl;rw[uC]at Y V;dsimp only at Y V;by_cases h:S=M
   ·have N:¬U.length=R.length:=λ N=>e ⟨h,N⟩
    refine ac kO (ae h) (ai Q O) ?_;exact ay rfl
   ·refine ac kO (ae h) (ai Q O) ?_;exact ay rfl
end Go.Proofs.YtjjbhjnpeenbkaaGreatDoor
