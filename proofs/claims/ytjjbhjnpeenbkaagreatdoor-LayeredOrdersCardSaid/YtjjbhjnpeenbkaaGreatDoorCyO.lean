/- The reference: Breaks, backward arcs. -/
import Derived.Test.YtjjbhjnpeenbkaaGreatDoorCyA
import Derived.Test.YtjjbhjnpeenbkaaGreatDoorPSCy2
set_option linter.unusedSimpArgs false
set_option linter.unusedVariables false
set_option maxHeartbeats 16000000
namespace Go.Proofs.YtjjbhjnpeenbkaaGreatDoor.Cyc
open Go Go.PS Go.Proofs
open Go.Cy (NA InN bN j1 bwd mf bJ)
open Go.Bd (Part)
set_option maxRecDepth 100000
attribute [local irreducible] ao wpG ah ax
theorem PO (n:Nat)(l:List NA)(R:List Nat)(E:InN n l)(A:n<=64)(C:l.length<=256)(T:Part n 0 R):ah Tryz.prog 145 [gD ((n:Int),castA l),br R] (br (bJ R l)):=by
 have Z:=castA_len l;have h:R.length=n:=by have:=T.len;omega
 refine kE Tryz.func145 ?_;intro H B X z;refine ac kO (ae h) aa ?_;refine aq (λ(k:Nat)=>k<=n) (λ k=>[(1, .d (br R)),(2, .ptr 2 0 0 0),(5, .ref 11 1 0 n n),(6, .int k)]) (λ k=>[(2, .cells [.int n, .d (aw (castA l))]),(11, .row 1 (cz n (plF R k)))]) (λ k=>n-k) 0 ?_ ?_ ?_
 ·exact uF _
 ·exact kN (ae (Gm n R)) []
 ·intro k S;rcases uD k n with Q|L
  ·obtain⟨v,U⟩:=ak (show k<R.length by omega);have K:=T.lt v (uA U);have F:=l0 (plF R k) K;have V:=Hi (n:=n) (f:=plF R k) (f':=plF R (k+1)) (i:=v) (x:=k) (λ w _=>Gn T.nd U w);refine ac kO (aQ U h F @iH V) aa ?_;refine⟨k+1,?_,kN aa [],?_⟩
   ·omega
   ·omega
  ·have S:n=k:=xA;subst S;refine ac (cE (Nat.beq 25) (b:=true)) (ai h Z) aa ?_;refine aq (λ(k:Nat)=>k<=l.length) (λ k=>[(1, .d (br R)),(2, .ptr 2 0 0 0),(5, .ref 11 1 0 n n),(7, .ref 901 1 0 (iZ R l k).length (iZ R l k).length),(8, .int k)]) (λ k=>[(2, .cells [.int n, .d (aw (castA l))]),(11, .row 1 (cz n (plF R n))),(901, .row 1 ((iZ R l k).map aG))]) (λ k=>l.length-k) 0 ?_ ?_ ?_
   ·exact uF _
   ·exact kN aa [(901,25)]
   ·intro k S;rcases uD k l.length with Q|L
    ·obtain⟨a,M⟩:=ak Q;have J:=castA_get M;have Y:=E a (uA M);have O:=l0 (plF R n) Y.1;have N:=l0 (plF R n) Y.2;have q:=tY T Y.1;have I:=tY T Y.2;rw[h]at q I;rw[q]at O;rw[I]at N;have V:=B4 R M;have G:=B3 R l k;rw[bwd]at V;by_cases c:R.idxOf a.2<R.idxOf a.1
     ·rw[uZ c,if_pos rfl]at V;refine ac kO (bq J Z O N @iH @aA) aa ?_;refine⟨k+1,?_,kN (bq V @uH.{0} @yO.{0} @uO.{0,0} @uS.{0,0} @uY.{0,0}) [(901,55)],?_⟩
      ·omega
      ·omega
     ·rw[uW c,if_neg kY]at V;refine ac kO (aQ J Z O N @iH) aa ?_;refine⟨k+1,?_,kN (ae V) [],?_⟩
      ·omega
      ·omega
    ·have S:k=l.length:=xA;subst S;refine ac kO (ae Z) aa ?_;exact bZ (o:=901) rfl rfl xB (by rw[uE xB];rfl)
end Go.Proofs.YtjjbhjnpeenbkaaGreatDoor.Cyc
namespace Go.Proofs.YtjjbhjnpeenbkaaGreatDoor.Cyc
open Go Go.PS Go.Proofs
open Go.Cy (NA InN eM fU fT iA bwd bJ)
set_option maxRecDepth 100000
attribute [local irreducible] ao wpG ah ax
end Go.Proofs.YtjjbhjnpeenbkaaGreatDoor.Cyc
namespace Go.Proofs.YtjjbhjnpeenbkaaGreatDoor.Cyc
open Go Go.PS Go.Proofs
open Go.Cy (NA InN bwd mf bJ cR dx dS bL gh cq bN)
open Go.Bd (Part)
set_option maxRecDepth 100000
attribute [local irreducible] ao wpG ah ax
theorem Fj :∀{a b:List Nat} {k:Nat},a.take k=b.take k->dx (a.drop k) (b.drop k)=dx a b
 |a,b,0,_=>by rw[qD,qD]
 |[],[],k+1,_=>xB
 |[],y::b,k+1,h=>by simp at h
 |x::a,[],k+1,h=>by simp at h
 |x::a,y::b,k+1,h=>by
  simp only[Bu,List.cons.injEq]at h;obtain⟨rfl,h⟩:=h;rw[Ak,Ak,Fj h,dx,if_pos rfl]
theorem Hc (a b:List Nat):ah Tryz.prog 197 [br a,br b] (.bool (cR a b)):=by
 refine kE Tryz.func197 ?_;intro Z B X I;have L:=bI 0 Z rfl;have K:=bI 1 Z rfl;rw[uC]at L K;by_cases c:a.length=b.length
 ·have U:(a.length:Int)=b.length:=xA;rw[cR,if_pos c];refine ac kO (ae @U) aa ?_;refine aq (λ(k:Nat)=>k<=a.length/\a.take k=b.take k) (λ k=>[(0, .d (br a)),(1, .d (br b)),(5, .int k)]) (λ k=>[]) (λ k=>a.length-k) 0 ?_ ?_ ?_
  ·exact⟨uF _,rfl⟩
  ·exact kN aa []
  ·rintro k ⟨J,h⟩;rcases uD k a.length with Q|R
   ·obtain⟨x,Y⟩:=ak Q;obtain⟨y,V⟩:=ak (show k<b.length by omega);by_cases d:x=y
    ·subst d;refine ac kO (ai Y V) aa ?_;refine⟨k+1,?_,kN aa [],?_⟩
     ·exact⟨xA,by rw[aM Y,aM V,h]⟩
     ·omega
    ·have O:¬(x:Int)=y:=xA;have e:dx a b=decide (x<y):=by
      obtain⟨T,S⟩:=uB.1 Y;obtain⟨N,M⟩:=uB.1 V;rw[<-Fj h,qV T,qV N,dx,S,M,if_neg d]
     rw[e];refine ac kO (av Y V @O) aa ?_;exact ay (Bo.2 xA)
   ·have e:a=b:=by
     have T:a.take k=a:=uE R;have S:b.take k=b:=uE xA;rw[T,S]at h;exact h
    subst e;rw[Go.Cy.lexLt_irr];refine ac kO aa aa ?_;exact rfl
 ·have U:¬(a.length:Int)=b.length:=xA;rw[cR,if_neg c];refine ac kO (ae @U) aa ?_;exact ay (Bo.2 xA)
theorem PN (n:Nat)(l:List NA)(R:List Nat)(A:InN n l)(s:n<=64)(z:l.length<=256)(T:Part n 0 R):ax Tryz.prog 145 [.d (gD ((n:Int),castA l)), .ref 1000 1 0 n n] [(1000, .row 1 (R.map aG)),(2000, .dead)] (.ref 2000 1 0 (bJ R l).length (bJ R l).length) [(1000, .row 1 (R.map aG)),(2000, .row 1 ((bJ R l).map aG))]:=by
 have Z:=castA_len l;have h:R.length=n:=by have:=T.len;omega
 refine kM Tryz.func145 ?_;intro B X w0;refine fc ?_;refine ac kP (ae h) aa ?_;refine aq (λ(k:Nat)=>k<=n) (λ k=>[(1, .ref 1000 1 0 n n),(2, .ptr 2 0 0 0),(5, .ref 11 1 0 n n),(6, .int k)]) (λ k=>[(2, .cells [.int n, .d (aw (castA l))]),(1000, .row 1 (R.map aG)),(11, .row 1 (cz n (plF R k)))]) (λ k=>n-k) 0 ?_ ?_ ?_
 ·exact uF _
 ·exact kN (ae (Gm n R)) []
 ·intro k S;rcases uD k n with Q|I
  ·obtain⟨v,U⟩:=ak (show k<R.length by omega);have H:=T.lt v (uA U);have C:=l0 (plF R k) H;have V:=Hi (n:=n) (f:=plF R k) (f':=plF R (k+1)) (i:=v) (x:=k) (λ w _=>Gn T.nd U w);refine ac kP (aQ U h C @iH V) aa ?_;refine⟨k+1,?_,kN aa [],?_⟩
   ·omega
   ·omega
  ·have S:n=k:=xA;subst S;refine ac (cE (Nat.beq 25) (b:=false)) (ai h Z) aa ?_;refine aq (λ(k:Nat)=>k<=l.length) (λ k=>[(1, .ref 1000 1 0 n n),(2, .ptr 2 0 0 0),(5, .ref 11 1 0 n n),(7, .ref 901 1 0 (iZ R l k).length (iZ R l k).length),(8, .int k)]) (λ k=>[(2, .cells [.int n, .d (aw (castA l))]),(1000, .row 1 (R.map aG)),(11, .row 1 (cz n (plF R n))),(901, .row 1 ((iZ R l k).map aG))]) (λ k=>l.length-k) 0 ?_ ?_ ?_
   ·exact uF _
   ·exact kN aa [(901,25)]
   ·intro k S;rcases uD k l.length with Q|I
    ·obtain⟨a,K⟩:=ak Q;have G:=castA_get K;have Y:=A a (uA K);have O:=l0 (plF R n) Y.1;have N:=l0 (plF R n) Y.2;have q:=tY T Y.1;have F:=tY T Y.2;rw[h]at q F;rw[q]at O;rw[F]at N;have V:=B4 R K;have E:=B3 R l k;rw[bwd]at V;by_cases c:R.idxOf a.2<R.idxOf a.1
     ·rw[uZ c,if_pos rfl]at V;refine ac kP (bq G Z O N @iH @aA) aa ?_;refine⟨k+1,?_,kN (bq V @uH.{0} @yO.{0} @uO.{0,0} @uS.{0,0} @uY.{0,0}) [(901,55)],?_⟩
      ·omega
      ·omega
     ·rw[uW c,if_neg kY]at V;refine ac kP (aQ G Z O N @iH) aa ?_;refine⟨k+1,?_,kN (ae V) [],?_⟩
      ·omega
      ·omega
    ·have S:k=l.length:=xA;subst S;have J:iZ R l l.length=bJ R l:=rfl;rw[J];refine ac kP (ae Z) aa ?_;refine aV ?_;refine⟨_,cI.1 (kN (L:=[(4, .ref 2000 1 0 (bJ R l).length (bJ R l).length)]) (M:=[(1000, .row 1 (R.map aG)),(2000, .row 1 ((bJ R l).map aG))]) aa [(2000,901)]),?_⟩;exact⟨rfl,fmc ⟨rfl,fmc ⟨rfl,fmn⟩⟩⟩
def dj (o:Option (List Nat)):List Nat:=o.getD []
theorem IM (m:List Nat)(v:Nat){i x:Nat}(h:m[i]? =some x):decide (v∈m.take (i+1))=(decide (v∈m.take i)||decide (x=v)):=by
 rw[aM h,qW];simp only[yP,uX,gI,uG];exact⟨λ h=>h.imp id Eq.symm,λ h=>h.imp id Eq.symm⟩
theorem RF (n:Nat)(l:List NA)(hi:InN n l)(hn:n<=64)(G:l.length<=256):∀(f:Nat) (m:List Nat),Part n f m->
  ax Tryz.prog 144 [.d (gD ((n:Int),castA l)), .ref 1000 1 0 m.length m.length] [(1000, .row 1 (m.map aG)),(2000, .dead)] (.ref 2000 1 0 (dS n l f m).length (dS n l f m).length) [(1000, .row 1 (m.map aG)),(2000, .row 1 ((dS n l f m).map aG))]:=by
 intro f
 induction f with
 |zero=>
  intro m T;have h:m.length=n:=by have:=T.len;omega
  have R:=PN n l m hi hn G T;rw[<-h]at R;have e:dS n l 0 m=bJ m l:=by rw[dS]
  rw[e];have c':(m.length:Int)=n:=xA;refine kM Tryz.func144 ?_;intro B X w0;refine fc ?_;rw[<-h];refine ac kP aa (ae (dM [(1000,1000),(2000,903)] R)) ?_;refine aV ?_;refine⟨_,cI.1 (kN (L:=[(4, .ref 2000 1 0 (bJ m l).length (bJ m l).length)]) (M:=[(1000, .row 1 (m.map aG)),(2000, .row 1 ((bJ m l).map aG))]) aa [(2000,903)]),?_⟩;exact⟨rfl,fmc ⟨rfl,fmc ⟨rfl,fmn⟩⟩⟩
 |succ f z=>
  intro m T;have E:m.length+(f+1)=n:=T.len;have h:¬(m.length:Int)=n:=xA;have e0:dS n l (f+1) m=dj (bL n l f m n):=by rw[dS];rfl
  rw[e0];refine kM Tryz.func144 ?_;intro B X w0;refine fc ?_;refine ac (cE (λ s=>(Nat.beq 20 s).or (Nat.beq 44 s)) (b:=false)) (ae h) aa ?_;refine aq (λ(v:Nat)=>v<=n) (λ v=>[(1, .ref 1000 1 0 m.length m.length),(2, .ptr 2 0 0 0),(5, .ref 902 1 0 (dj (bL n l f m v)).length (dj (bL n l f m v)).length),(6, .bool (bL n l f m v).isSome),(7, .int v)]) (λ v=>[(2, .cells [.int n, .d (aw (castA l))]),(1000, .row 1 (m.map aG)),(902, .row 1 ((dj (bL n l f m v)).map aG))]) (λ v=>n-v) 0 ?_ ?_ ?_
  ·exact uF _
  ·exact eL [(902,20)] _ _ (by refine⟨?_,?_⟩<;>(repeat' first|exact fmn|refine fmc ⟨(by first|rfl|(simp(disch:=omega) only[go_sem,simprocAttr,inL,bL,dj,Dh,Option.getD_none,uU,uY];first|done|omega|(congr 1;done))),?_⟩);done)
  ·intro v hv;rcases uD v n with F|hge
   ·have hmb:=E;refine ac kP (ae h) aa ?_;refine aq (λ(i:Nat)=>i<=m.length) (λ i=>[(1, .ref 1000 1 0 m.length m.length),(2, .ptr 2 0 0 0),(5, .ref 902 1 0 (dj (bL n l f m v)).length (dj (bL n l f m v)).length),(6, .bool (bL n l f m v).isSome),(7, .int v),(8, .bool (decide (v∈m.take i))),(9, .int i)]) (λ i=>[(2, .cells [.int n, .d (aw (castA l))]),(1000, .row 1 (m.map aG)),(902, .row 1 ((dj (bL n l f m v)).map aG))]) (λ i=>m.length-i) 0 ?_ ?_ ?_
    ·exact uF _
    ·exact kN (av @yQ.{0} @gV.{0} @Au) []
    ·intro i hil;rcases uD i m.length with Q|Q
     ·obtain⟨x,K⟩:=ak Q;have V:=IM m v K;rcases R:decide (v∈m.take i)with _|_
      ·rw[R]at V;by_cases d:x=v
       ·subst d;rw[uZ rfl]at V;refine ac kP (ai K @uC.{0,0}) aa ?_;refine⟨i+1,?_,kN (ai V @Cn) [],?_⟩
        ·omega
        ·omega
       ·rw[uW d]at V;have q:¬(x:Int)=v:=xA;refine ac kP (av K @uC.{0,0} @q) aa ?_;refine⟨i+1,?_,kN (ai V @Bool.or_self) [],?_⟩
        ·omega
        ·omega
      ·rw[R]at V;refine ac kP (ai K @uC.{0,0}) aa ?_;refine⟨i+1,?_,kN (ai V @Db) [],?_⟩
       ·omega
       ·omega
     ·have H:i=m.length:=xA;subst H;rw[yE];by_cases c:v∈m
      ·rw[uZ c];have e:bL n l f m (v+1)=bL n l f m v:=by rw[bL,if_pos c]
       refine ac kP (ae @uC.{0,0}) aa ?_;refine⟨v+1,?_,kN (ae e) [],?_⟩
       ·omega
       ·omega
      ·rw[uW c];have S:=T.snoc F c;have N:=z (m++[v]) S;have e:bL n l f m (v+1)=gh (bL n l f m v) (dS n l f (m++[v])):=by rw[bL,if_neg c]
       have C:=Go.Cy.srch_len n l S;obtain⟨s,hs⟩:∃s,s=dS n l f (m++[v]):=⟨_,rfl⟩;rw[<-hs]at N e C;simp only[uH,uV,uU,uO,uS,uY,yU]at N;rcases O:bL n l f m v with _|b
       ·rw[O]at e;have J:dj none=[]:=rfl;have I:(none:Option (List Nat)).isSome=false:=rfl;have U:gh none s=some s:=rfl;rw[J,I];refine ac (cE (Nat.beq 44) (b:=false)) (ai @uC.{0,0} @aA) (ae (dM [(1000,52),(2000,903)] N)) ?_;refine⟨v+1,?_,kN (aQ e U @dj.eq_1 @yN.{0} @kW.{0}) [(902,903)],?_⟩
        ·omega
        ·omega
       ·rw[O]at e;have J:dj (some b)=b:=rfl;have I:(some b:Option (List Nat)).isSome=true:=rfl;rw[J,I];have Y:=Hc s b;rcases Z:cR s b with _|_
        ·have U:gh (some b) s=some b:=by simp[gh,Z]
         rw[Z]at Y;refine ac (cE (Nat.beq 44) (b:=false)) (ai @uC.{0,0} @aA) (ai (dM [(1000,52),(2000,903)] N) Y) ?_;refine⟨v+1,?_,kN (aQ e U @dj.eq_1 @yN.{0} @kW.{0}) [],?_⟩
         ·omega
         ·omega
        ·have U:gh (some b) s=some s:=by simp[gh,Z]
         rw[Z]at Y;refine ac (cE (Nat.beq 44) (b:=false)) (ai @uC.{0,0} @aA) (ai (dM [(1000,52),(2000,903)] N) Y) ?_;refine⟨v+1,?_,kN (aQ e U @dj.eq_1 @yN.{0} @kW.{0}) [(902,903)],?_⟩
         ·omega
         ·omega
   ·have A:n=v:=xA;subst A;refine ac kP aa aa ?_;refine aV ?_;refine⟨_,cI.1 (kN (L:=[(4, .ref 2000 1 0 (dj (bL n l f m n)).length (dj (bL n l f m n)).length)]) (M:=[(1000, .row 1 (m.map aG)),(2000, .row 1 ((dj (bL n l f m n)).map aG))]) aa [(2000,902)]),?_⟩;exact⟨rfl,fmc ⟨rfl,fmc ⟨rfl,fmn⟩⟩⟩
theorem RE (n:Nat)(l:List NA)(hi:InN n l)(hn:n<=64)(K:l.length<=256)(f:Nat)(m:List Nat)(F:Part n (f+1) m):
  ah Tryz.prog 144 [gD ((n:Int),castA l),br m] (br (dS n l (f+1) m)):=by
  have C:=RF n l hi hn K f;have I:m.length+(f+1)=n:=F.len;have S:¬(m.length:Int)=n:=xA;have z:dS n l (f+1) m=dj (bL n l f m n):=by rw[dS];rfl
  rw[z];refine kE Tryz.func144 ?_;intro q B X w0;refine ac (cE (λ s=>(Nat.beq 20 s).or (Nat.beq 44 s)) (b:=true)) (ae S) aa ?_;refine aq (λ(v:Nat)=>v<=n) (λ v=>[(1, .d (br m)),(2, .ptr 2 0 0 0),(5, .ref 902 1 0 (dj (bL n l f m v)).length (dj (bL n l f m v)).length),(6, .bool (bL n l f m v).isSome),(7, .int v)]) (λ v=>[(2, .cells [.int n, .d (aw (castA l))]),(902, .row 1 ((dj (bL n l f m v)).map aG))]) (λ v=>n-v) 0 ?_ ?_ ?_
  ·exact uF _
  ·exact eL [(902,20)] _ _ (by refine⟨?_,?_⟩<;>(repeat' first|exact fmn|refine fmc ⟨(by first|rfl|(simp(disch:=omega) only[go_sem,simprocAttr,inL,bL,dj,Dh,Option.getD_none,uU,uY];first|done|omega|(congr 1;done))),?_⟩);done)
  ·intro v hv;rcases uD v n with J|hge
   ·have hmb:=I;refine ac kO (ae S) aa ?_;refine aq (λ(i:Nat)=>i<=m.length) (λ i=>[(1, .d (br m)),(2, .ptr 2 0 0 0),(5, .ref 902 1 0 (dj (bL n l f m v)).length (dj (bL n l f m v)).length),(6, .bool (bL n l f m v).isSome),(7, .int v),(8, .bool (decide (v∈m.take i))),(9, .int i)]) (λ i=>[(2, .cells [.int n, .d (aw (castA l))]),(902, .row 1 ((dj (bL n l f m v)).map aG))]) (λ i=>m.length-i) 0 ?_ ?_ ?_
    ·exact uF _
    ·exact kN (av @yQ.{0} @gV.{0} @Au) []
    ·intro i hil;rcases uD i m.length with T|T
     ·obtain⟨x,O⟩:=ak T;have Y:=IM m v O;rcases E:decide (v∈m.take i)with _|_
      ·rw[E]at Y;by_cases d:x=v
       ·subst d;rw[uZ rfl]at Y;refine ac kO (ai O @uC.{0,0}) aa ?_;refine⟨i+1,?_,kN (ai Y @Cn) [],?_⟩
        ·omega
        ·omega
       ·rw[uW d]at Y;have A:¬(x:Int)=v:=xA;refine ac kO (av O @uC.{0,0} @A) aa ?_;refine⟨i+1,?_,kN (ai Y @Bool.or_self) [],?_⟩
        ·omega
        ·omega
      ·rw[E]at Y;refine ac kO (ai O @uC.{0,0}) aa ?_;refine⟨i+1,?_,kN (ai Y @Db) [],?_⟩
       ·omega
       ·omega
     ·have L:i=m.length:=xA;subst L;rw[yE];by_cases c:v∈m
      ·rw[uZ c];have e:bL n l f m (v+1)=bL n l f m v:=by rw[bL,if_pos c]
       refine ac kO (ae @uC.{0,0}) aa ?_;refine⟨v+1,?_,kN (ae e) [],?_⟩
       ·omega
       ·omega
      ·rw[uW c];have U:=F.snoc J c;have Q:=C (m++[v]) U;have e:bL n l f m (v+1)=gh (bL n l f m v) (dS n l f (m++[v])):=by rw[bL,if_neg c]
       have H:=Go.Cy.srch_len n l U;obtain⟨s,hs⟩:∃s,s=dS n l f (m++[v]):=⟨_,rfl⟩;rw[<-hs]at Q e H;simp only[uH,uV,uU,uO,uS,uY,yU]at Q;rcases R:bL n l f m v with _|b
       ·rw[R]at e;have N:dj none=[]:=rfl;have M:(none:Option (List Nat)).isSome=false:=rfl;have V:gh none s=some s:=rfl;rw[N,M];refine ac (cE (Nat.beq 44) (b:=true)) (ai @uC.{0,0} @aA) (ae (dM [(1000,52),(2000,903)] Q)) ?_;refine⟨v+1,?_,kN (aQ e V @dj.eq_1 @yN.{0} @kW.{0}) [(902,903)],?_⟩
        ·omega
        ·omega
       ·rw[R]at e;have N:dj (some b)=b:=rfl;have M:(some b:Option (List Nat)).isSome=true:=rfl;rw[N,M];have Z:=Hc s b;rcases h:cR s b with _|_
        ·have V:gh (some b) s=some b:=by simp[gh,h]
         rw[h]at Z;refine ac (cE (Nat.beq 44) (b:=true)) (ai @uC.{0,0} @aA) (ai (dM [(1000,52),(2000,903)] Q) Z) ?_;refine⟨v+1,?_,kN (aQ e V @dj.eq_1 @yN.{0} @kW.{0}) [],?_⟩
         ·omega
         ·omega
        ·have V:gh (some b) s=some s:=by simp[gh,h]
         rw[h]at Z;refine ac (cE (Nat.beq 44) (b:=true)) (ai @uC.{0,0} @aA) (ai (dM [(1000,52),(2000,903)] Q) Z) ?_;refine⟨v+1,?_,kN (aQ e V @dj.eq_1 @yN.{0} @kW.{0}) [(902,903)],?_⟩
         ·omega
         ·omega
   ·have G:n=v:=xA;subst G;refine ac kO aa aa ?_;exact bZ (o:=902) rfl rfl xB (by rw[uE xB])
theorem RG (n:Nat)(l:List NA)(Z:InN n l)(Y:n<=8)(h:l.length<=256):ah Tryz.prog 144 [gD ((n:Int),castA l), .sl []] (br (cq n l)):=by
 rw[<-Go.Cy.srch_least Y Z xA];cases n with
 |zero=>
  have U:=PO 0 l [] Z xA h ⟨zL,xB,rfl⟩;have e:dS 0 l 0 []=bJ [] l:=by rw[dS]
  rw[e];refine kE Tryz.func144 ?_;intro V B X T;refine ac kO aa (ae U) ?_;exact rfl
 |succ f=>exact RE (f+1) l Z xA h f [] ⟨zL,xB,xB⟩
theorem P5 (n:Nat)(l:List NA)(h:gOk ((n:Int),castA l)=true)(U:InN n l)(Z:l.length<=256)(Y:n<=8):ah Tryz.prog 87 [gD ((n:Int),castA l)] (.tup [br (cq n l), .int 0]):=by
 have S:ah Tryz.prog 86 [gD ((n:Int),castA l)] (.bool true):=h▸GS _;have T:=RG n l U Y Z;refine kE Tryz.func87 ?_;intro V B X R;refine ac kO aa (ai S T) ?_;exact⟨_,rfl,rfl,rfl,trivial⟩
end Go.Proofs.YtjjbhjnpeenbkaaGreatDoor.Cyc
namespace Go.Proofs.YtjjbhjnpeenbkaaGreatDoor.Cyc
open Go Go.PS Go.Proofs
open Go.Cy (NA InN cq bN j1)
set_option maxRecDepth 100000
attribute [local irreducible] ao wpG ah ax
theorem rBreak8 (n:Nat)(l:List NA)(h:gOk ((n:Int),castA l)=true)(T:InN n l)(Z:l.length<=256)(Y:n<=8):ah Tryz.prog 42 [gD ((n:Int),castA l)] (.tup [br (cq n l),gD ((n:Int),castA (bN l (cq n l)))]):=by
 have R:ah Tryz.prog 86 [gD ((n:Int),castA l)] (.bool true):=h▸GS _;have V:=QT n l (cq n l) Z (Fa n l);have S:=P5 n l h T Z Y;refine kE Tryz.func42 ?_;intro U B X Q;refine ac kO aa (av R S V) ?_;refine⟨_,rfl,?_,⟨_,_,_,_,rfl,?_⟩,trivial⟩
 ·rfl
 ·simp(disch:=omega) only[go_sem,simprocAttr]
end Go.Proofs.YtjjbhjnpeenbkaaGreatDoor.Cyc
