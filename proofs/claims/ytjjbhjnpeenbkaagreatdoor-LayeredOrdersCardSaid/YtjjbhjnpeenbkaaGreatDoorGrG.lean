/- Valid graphs by the reference. -/
import Derived.Test.YtjjbhjnpeenbkaaGreatDoorGrA
set_option linter.unusedSimpArgs false
set_option linter.unusedVariables false
set_option maxHeartbeats 16000000
namespace Go.Proofs.YtjjbhjnpeenbkaaGreatDoor.Gr
open Go Go.PS Go.Proofs
set_option maxRecDepth 100000
attribute [local irreducible] ao wpG ah ax
theorem LR {g:Gph}{s:ByteArray}{k:Nat}{x:Nd}(U:g.ns[k]? =some x)(Y:x.nm=s)(h:∀(j:Nat) y,j<k->g.ns[j]? =some y->decide (y.nm=s)=false):eZ g s=k:=by
 have:g.ns.findIdx? (λ n=>decide (n.nm=s))=some k:=by
  obtain⟨V,Z⟩:=uB.1 U;refine jY.2 ⟨V,by rw[Z];exact uZ Y,λ j X=>?_⟩;rw[h j _ X (uT xA)];decide
 rw[eZ,this];rfl
theorem LV {g:Gph}{s:ByteArray}(h:∀(j:Nat) y,j<g.ns.length->g.ns[j]? =some y->decide (y.nm=s)=false):eZ g s=-1:=by
 have:g.ns.findIdx? (λ n=>decide (n.nm=s))=none:=by
  rw[Bt];intro x Y;obtain⟨j,Z⟩:=qC.1 Y;exact h j x (uB.1 Z).1 Z
 rw[eZ,this];rfl
theorem GI (g:Gph)(s:ByteArray)(Q:g.ns.length<=1000000):ah Tryz.prog 186 [a7 g,bi s] (.int (eZ g s)):=by
 refine kE Tryz.func186 ?_;intro U B X O;refine ac kO aa aa ?_;refine aq (λ(k:Nat)=>k<=g.ns.length/\∀(j:Nat) y,j<k->g.ns[j]? =some y->decide (y.nm=s)=false) (λ k=>[(1, .d (bi s)),(2, .ptr 2 0 0 0),(5, .int k)]) (λ k=>[(2, .cells [.d (bi g.nm), .d (.bool g.dir), .d (.sl (g.ns.map ndD)), .d (.sl (g.es.map edD)), .d (.sl (g.cs.map clD))])]) (λ k=>g.ns.length-k) 0 ?_ ?_ ?_
 ·exact⟨uF _,λ j y h=>xA⟩
 ·exact kN aa []
 ·rintro k ⟨R,Z⟩;rcases uD k g.ns.length with Y|T
  ·obtain⟨x,V⟩:=ak Y;by_cases c:x.nm=s
   ·refine ac kO (ai V c) aa ?_;exact ap (LR V c Z).symm
   ·refine ac kO (ai V c) aa ?_;refine⟨k+1,?_,kN aa [],?_⟩
    ·exact⟨Y,b9 Z V (uW c)⟩
    ·omega
  ·refine ac kO aa aa ?_;exact ap (LV (λ j y S=>Z j y xA)).symm
theorem QX (g:Gph)(i:Nat)(q:Mod g)(z:i<g.ns.length)(s:g.ns.length<=1000000):ah Tryz.prog 130 [a7 g, .int i] (.int (lq g i)):=by
 obtain⟨n,V⟩:=ak z;obtain⟨b,m2,m3⟩:=q.ns n (uA V);have e:=xr V;have M:=uc n.nm b;have K:=GI g n.nm s;have H:=GO n.lb m2;have C:=Qe n.ps m3;have hf:=LU V;rw[e];rcases A:e8 n.nm with _|_<;>rw[A]at M
 ·rw[if_pos rfl];refine kE Tryz.func130 ?_;intro U B X J;refine ac kO (ae V) (ae M) ?_;exact ap rfl
 ·rw[if_neg xC];by_cases F:eZ g n.nm<i
  ·have L:¬eZ g n.nm=(i:Int):=xA;rw[if_pos F];refine kE Tryz.func130 ?_;intro U B X J;refine ac kO (ai V @L) (ai M K) ?_;exact ap rfl
  ·have L:eZ g n.nm=(i:Int):=xA;rw[if_neg F];rw[L]at K;by_cases I:32<n.lb.size
   ·have Z:(32:Int)<n.lb.size:=xA;rw[if_pos (by rw[eN,if_pos I];decide),eN,if_pos I];refine kE Tryz.func130 ?_;intro U B X J;refine ac kO (ai V @Z) (ai M K) ?_;exact ap rfl
   ·have Z:¬(32:Int)<n.lb.size:=xA;rcases G:(dU n.lb).any cW with _|_<;>rw[G]at H
    ·rw[if_neg (by rw[eN,if_neg I,G];decide)];by_cases c5:n.w<1\/1048576<n.w\/n.h<1\/1048576<n.h\/n.cl< -1\/(g.cs.length:Int)<=n.cl
     ·rw[if_pos (by simp[ic];omega)];refine kE Tryz.func130 ?_;intro U B X J;refine kw kO (ai V @Z) (aE M K H C) ?_
      repeat' first|exact True.intro|refine Bn.mk ?_ ?_|intro T
      all_goals first|exact ap rfl|(exfalso;omega)
     ·rw[if_neg (by simp[ic];omega)];have w1:¬n.w<1:=xA;have S:¬1048576<n.w:=xA;have R:¬n.h<1:=xA;have Q:¬1048576<n.h:=xA;have O:¬n.cl< -1:=xA;have N:¬(g.cs.length:Int)<=n.cl:=xA;rw[se];by_cases E:8<n.ps.length
      ·have Y:(8:Int)<n.ps.length:=xA;rw[if_pos E];refine kE Tryz.func130 ?_;intro U B X J
       repeat' first|refine bt rfl ?_|refine aV ?_|refine wR ?_|(refine rc (M) rfl ?_ ?_;(· first|rfl|simp(disch:=omega) only[go_sem,simprocAttr,V,Z,w1,S,R,Q,O,N,Y]))|(refine rc (K) rfl ?_ ?_;(· first|rfl|simp(disch:=omega) only[go_sem,simprocAttr,V,Z,w1,S,R,Q,O,N,Y]))|(refine rc (H) rfl ?_ ?_;(· first|rfl|simp(disch:=omega) only[go_sem,simprocAttr,V,Z,w1,S,R,Q,O,N,Y]))|(refine bB rfl rfl (λ T=>?_) (λ T=>?_)<;>try simp only[hcL]at T)|(refine bA _ rfl rfl (λ T=>?_) (λ T=>?_)<;>(try simp only[hcL]at T)<;>try omega)|simp(disch:=omega) only[go_sem,simprocAttr,V,Z,w1,S,R,Q,O,N,Y]|apply And.intro|omega|decide+kernel
       exact ap rfl
      ·have Y:¬(8:Int)<n.ps.length:=xA;rw[if_neg E];refine kE Tryz.func130 ?_;intro U B X J
       repeat' first|refine bt rfl ?_|refine aV ?_|refine wR ?_|(refine rc (M) rfl ?_ ?_;(· first|rfl|simp(disch:=omega) only[go_sem,simprocAttr,V,Z,w1,S,R,Q,O,N,Y]))|(refine rc (K) rfl ?_ ?_;(· first|rfl|simp(disch:=omega) only[go_sem,simprocAttr,V,Z,w1,S,R,Q,O,N,Y]))|(refine rc (H) rfl ?_ ?_;(· first|rfl|simp(disch:=omega) only[go_sem,simprocAttr,V,Z,w1,S,R,Q,O,N,Y]))|(refine rc (C) rfl ?_ ?_;(· first|rfl|simp(disch:=omega) only[go_sem,simprocAttr,V,Z,w1,S,R,Q,O,N,Y]))|(refine bB rfl rfl (λ T=>?_) (λ T=>?_)<;>try simp only[hcL]at T)|(refine bA _ rfl rfl (λ T=>?_) (λ T=>?_)<;>(try simp only[hcL]at T)<;>try omega)|simp(disch:=omega) only[go_sem,simprocAttr,V,Z,w1,S,R,Q,O,N,Y]|apply And.intro|omega|decide+kernel
       exact ap rfl
    ·rw[if_pos (by rw[eN,if_neg I,G];decide),eN,if_neg I,G,if_pos rfl];refine kE Tryz.func130 ?_;intro U B X J;refine ac kO (ai V @Z) (av M K H) ?_;exact ap rfl
theorem Qu (g:Gph)(i:Nat)(z:Mod g)(I:i<g.cs.length)(s:fe (i7 g) i=0)(F:g.cs.length<=16)(A:g.ns.length<=1000000):ah Tryz.prog 131 [a7 g, .int i] (.int (i7 g i)):=by
 obtain⟨c,R⟩:=ak I;have e:=vO R;have L:=uc c.nm (z.cs c (uA R));have T:=GI g c.nm A;rw[e];rcases G:e8 c.nm with _|_<;>rw[G]at L
 ·rw[if_pos rfl];refine kE Tryz.func131 ?_;intro K B X q;refine ac kO (ae R) (ae L) ?_;exact ap rfl
 ·rw[if_neg xC];refine kE Tryz.func131 ?_;intro K B X q;refine ac kO (ae R) (ae L) ?_;refine aq (λ(k:Nat)=>k<=i/\∀(j:Nat) y,j<k->g.cs[j]? =some y->decide (y.nm=c.nm)=false) (λ k=>[(1, .int i),(2, .ptr 2 0 0 0),(5, .ptr 5 0 0 0),(6, .int k)]) (λ k=>[(2, .cells [.d (bi g.nm), .d (.bool g.dir), .d (.sl (g.ns.map ndD)), .d (.sl (g.es.map edD)), .d (.sl (g.cs.map clD))]),(5, .cells [.d (bi c.nm), .int c.pa])]) (λ k=>i-k) 0 ?_ ?_ ?_
  ·exact⟨uF _,λ j y h=>xA⟩
  ·exact kN aa []
  ·rintro k ⟨b,Z⟩;rcases uD k i with Q|E
   ·obtain⟨x,M⟩:=ak (l:=g.cs) (k:=k) xA;by_cases N:x.nm=c.nm
    ·refine ac kO (ai M N) aa ?_;exact ap (by rw[if_pos (.inr (dk (k:=k) (by rw[jN Q];exact M) (uZ N)))])
    ·refine ac kO (ai M N) aa ?_;refine⟨k+1,?_,kN aa [],?_⟩
     ·exact⟨Q,b9 Z M (uW N)⟩
     ·omega
   ·have S:(g.cs.take i).any (λ x=>decide (x.nm=c.nm))=false:=d6 (λ j y C H=>by
     rw[yA]at C;rw[jN xA]at H;exact Z j y xA H)
    rw[S];by_cases Y:0<=eZ g c.nm
    ·refine ac kO (ae Y) (ae T) ?_;exact ap (by first|rfl|rw[if_pos (.inl Y)])
    ·rw[if_neg (by simp;omega)];by_cases V:c.pa< -1
     ·refine ac kO (ai Y V) (ae T) ?_;exact ap (by first|rfl|rw[if_pos (.inl V)])
     ·by_cases U:(i:Int)<=c.pa
      ·refine ac kO (av Y V U) (ae T) ?_;exact ap (by first|rfl|rw[if_pos (.inr U)])
      ·rw[if_neg xA];have J:=P1 g i I (DR s R V U) xA;by_cases O:6<(eW g.cs i).length
       ·refine ac kO (aE Y V U O) (ai T J) ?_;exact ap (by first|rfl|rw[if_pos O])
       ·refine ac kO (aE Y V U O) (ai T J) ?_;exact ap (by first|rfl|rw[if_neg O])
theorem Qy (g:Gph)(e:Ed)(s:e.lb.size<=1000000):ah Tryz.prog 132 [a7 g,edD e] (.int (lK g e)):=by
 have N:=GO e.lb s;by_cases H:0<=e.fr/\0<=e.to/\e.fr<g.ns.length/\e.to<g.ns.length
 ·obtain⟨i1,i2,i3,i4⟩:=H;obtain⟨F,S⟩:=ak (l:=g.ns) (k:=e.fr.toNat) xA;obtain⟨E,R⟩:=ak (l:=g.ns) (k:=e.to.toNat) xA;have b:=t6 S;have p2:=t6 R;have q:¬e.fr<0:=xA;have Y:¬(g.ns.length:Int)<=e.fr:=xA;have V:¬e.to<0:=xA;have U:¬(g.ns.length:Int)<=e.to:=xA;rw[lK,b,p2];by_cases hp:e.fp< -1\/e.tp< -1\/(F.ps.length:Int)<=e.fp\/(E.ps.length:Int)<=e.tp
  ·rw[if_pos xA];refine kE Tryz.func132 ?_;intro h B X T;refine kw kO (bq S R q Y V U) (ae N) ?_
   repeat' first|exact True.intro|refine Bn.mk ?_ ?_|intro Q
   all_goals first|exact ap rfl|(exfalso;omega)
  ·rw[if_neg xA];have M:¬e.fp< -1:=xA;have L:¬e.tp< -1:=xA;have K:¬(F.ps.length:Int)<=e.fp:=xA;have J:¬(E.ps.length:Int)<=e.tp:=xA;by_cases O:32<e.lb.size
   ·have Z:(32:Int)<e.lb.size:=xA;rw[if_pos (by rw[eN,if_pos O];decide),eN,if_pos O];refine kE Tryz.func132 ?_;intro h B X T;refine ac kO (bj S R q Y V U M (aE L K J @Z)) aa ?_;exact ap rfl
   ·have Z:¬(32:Int)<e.lb.size:=xA;rcases I:(dU e.lb).any cW with _|_<;>rw[I]at N
    ·rw[if_neg (by rw[eN,if_neg O,I];decide)];by_cases G:e.wt<1\/1000<e.wt\/e.ln<1\/64<e.ln
     ·rw[if_pos G];refine kE Tryz.func132 ?_;intro h B X T;refine kw kO (bj S R q Y V U M (aE L K J @Z)) (ae N) ?_
      repeat' first|exact True.intro|refine Bn.mk ?_ ?_|intro Q
      all_goals first|exact ap rfl|(exfalso;omega)
     ·rw[if_neg G];have w1:¬e.wt<1:=xA;have C:¬1000<e.wt:=xA;have A:¬e.ln<1:=xA;have z:¬64<e.ln:=xA;refine kE Tryz.func132 ?_;intro h B X T
      repeat' first|refine bt rfl ?_|refine aV ?_|refine wR ?_|(refine rc (N) rfl ?_ ?_;(· first|rfl|simp(disch:=omega) only[go_sem,simprocAttr,S,R,q,Y,V,U,M,L,K,J,Z,w1,C,A,z]))|(refine bB rfl rfl (λ Q=>?_) (λ Q=>?_)<;>try simp only[hcL]at Q)|(refine bA _ rfl rfl (λ Q=>?_) (λ Q=>?_)<;>(try simp only[hcL]at Q)<;>try omega)|simp(disch:=omega) only[go_sem,simprocAttr,S,R,q,Y,V,U,M,L,K,J,Z,w1,C,A,z]|apply And.intro|omega|decide+kernel
      exact ap rfl
    ·rw[if_pos (by rw[eN,if_neg O,I];decide),eN,if_neg O,I,if_pos rfl];refine kE Tryz.func132 ?_;intro h B X T;refine ac kO (bj S R q Y V U M (aE L K J @Z)) (ae N) ?_;exact ap rfl
 ·rw[lK,if_pos xA];by_cases q:e.fr<0
  ·refine kE Tryz.func132 ?_;intro h B X T;refine ac kO (ae q) aa ?_;exact ap rfl
  ·by_cases Y:(g.ns.length:Int)<=e.fr
   ·refine kE Tryz.func132 ?_;intro h B X T;refine ac kO (ai q Y) aa ?_;exact ap rfl
   ·by_cases V:e.to<0
    ·refine kE Tryz.func132 ?_;intro h B X T;refine ac kO (av q Y V) aa ?_;exact ap rfl
    ·have U:(g.ns.length:Int)<=e.to:=xA;refine kE Tryz.func132 ?_;intro h B X T;refine ac kO (aE q Y V U) aa ?_;exact ap rfl
theorem Hb (g:Gph)(O:Mod g):ah Tryz.prog 79 [a7 g] (.int (ee g)):=by
 have M:=uc g.nm O.nm;rw[ee];by_cases I:64<g.ns.length\/256<g.es.length\/16<g.cs.length
 ·rw[if_pos I];refine kE Tryz.func79 ?_;intro R B X G;refine kw kO aa aa ?_
  repeat' first|exact True.intro|refine Bn.mk ?_ ?_|intro C
  all_goals first|exact ap rfl|(exfalso;omega)
 ·rw[if_neg I];have L:¬(64:Int)<g.ns.length:=xA;have K:¬(256:Int)<g.es.length:=xA;have J:¬(16:Int)<g.cs.length:=xA;rcases F:e8 g.nm with _|_<;>rw[F]at M
  ·rw[if_pos rfl];refine kE Tryz.func79 ?_;intro R B X G;refine ac kO (av L K J) (ae M) ?_;exact ap rfl
  ·rw[if_neg xC];refine kE Tryz.func79 ?_;intro R B X G;refine ac kO (av L K J) (ae M) ?_;refine aq (λ(k:Nat)=>k<=g.ns.length/\fe (lq g) k=0) (λ k=>[(1, .ptr 1 0 0 0),(3, .int k)]) (λ k=>[(1, .cells [.d (bi g.nm), .d (.bool g.dir), .d (.sl (g.ns.map ndD)), .d (.sl (g.es.map edD)), .d (.sl (g.cs.map clD))])]) (λ k=>g.ns.length-k) 0 ?_ ?_ ?_
   ·exact⟨uF _,rfl⟩
   ·exact kN aa []
   ·rintro k ⟨H,S⟩;rcases uD k g.ns.length with Z|Q
    ·have T:=QX g k O Z xA;by_cases V:lq g k=0
     ·rw[V]at T;refine ac kO aa (ae T) ?_;refine⟨k+1,?_,kN aa [],?_⟩
      ·exact⟨Z,m9 S V⟩
      ·omega
     ·refine ac kO (ae V) (ae T) ?_;exact ap (by rw[ir S V _ Z,if_pos V])
    ·obtain rfl:k=g.ns.length:=xA;rw[if_neg (λ h=>h S)];refine ac kO aa aa ?_;refine aq (λ(k:Nat)=>k<=g.cs.length/\fe (i7 g) k=0) (λ k=>[(1, .ptr 1 0 0 0),(5, .int k)]) (λ k=>[(1, .cells [.d (bi g.nm), .d (.bool g.dir), .d (.sl (g.ns.map ndD)), .d (.sl (g.es.map edD)), .d (.sl (g.cs.map clD))])]) (λ k=>g.cs.length-k) 0 ?_ ?_ ?_
     ·exact⟨uF _,rfl⟩
     ·exact kN aa []
     ·rintro k ⟨H,Y⟩;rcases uD k g.cs.length with Z|Q
      ·have T:=Qu g k O Z Y xA xA;by_cases V:i7 g k=0
       ·rw[V]at T;refine ac kO aa (ae T) ?_;refine⟨k+1,?_,kN aa [],?_⟩
        ·exact⟨Z,m9 Y V⟩
        ·omega
       ·refine ac kO (ae V) (ae T) ?_;exact ap (by rw[ir Y V _ Z,if_pos V])
      ·obtain rfl:k=g.cs.length:=xA;rw[if_neg (λ h=>h Y)];refine ac kO aa aa ?_;refine aq (λ(k:Nat)=>k<=g.es.length/\fe (k5 g) k=0) (λ k=>[(1, .ptr 1 0 0 0),(7, .int k)]) (λ k=>[(1, .cells [.d (bi g.nm), .d (.bool g.dir), .d (.sl (g.ns.map ndD)), .d (.sl (g.es.map edD)), .d (.sl (g.cs.map clD))])]) (λ k=>g.es.length-k) 0 ?_ ?_ ?_
       ·exact⟨uF _,rfl⟩
       ·exact kN aa []
       ·rintro k ⟨H,U⟩;rcases uD k g.es.length with Z|Q
        ·obtain⟨x,N⟩:=ak Z;have T:=Qy g x (O.es x (uA N));have E:k5 g k=lK g x:=by rw[k5,N]
         rw[<-E]at T;by_cases V:k5 g k=0
         ·rw[V]at T;refine ac kO (ae N) (ae T) ?_;refine⟨k+1,?_,kN aa [],?_⟩
          ·exact⟨Z,m9 U V⟩
          ·omega
         ·refine ac kO (ai N V) (ae T) ?_;exact ap (by rw[ir U V _ Z])
        ·refine ac kO aa aa ?_;exact ap (by rw[show g.es.length=k by omega,U])
end Go.Proofs.YtjjbhjnpeenbkaaGreatDoor.Gr
