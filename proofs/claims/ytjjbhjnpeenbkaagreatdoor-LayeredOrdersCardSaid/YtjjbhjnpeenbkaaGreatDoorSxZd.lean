/- Balanced ranks: they are optimal. -/
import Derived.Test.YtjjbhjnpeenbkaaGreatDoorSxZ
import Derived.Test.YtjjbhjnpeenbkaaGreatDoorSxL
set_option linter.unusedSimpArgs false
set_option linter.unusedVariables false
set_option maxHeartbeats 16000000
namespace Go.Proofs.YtjjbhjnpeenbkaaGreatDoor.Sx
open Go Go.PS Go.Proofs
theorem xY {P:Program}{B X:Nat->Prop}{U:W0}{n:Nat}{Q:Exit->St->Prop}{S:St}{id:Nat}(k:Nat)(_hid:Nat.blt id k=true)(own:Nat->Bool)(ck:P.follows .mixedOrders=true){ops:Array Oper}{Z:Bool}
  (h:ao P own ops.toList ops.toList S [] λ Y V=>oL n ops Z V.reverse=true/\Q .normal Y):PW P B X U n (.region id ops Z) Q S:=dA own ck h
section mid
variable {n:Nat}{l:List Bd}{a b f f2:List Int}
theorem tJ {k:Nat}{c:Bd}:(l.map mirB)[k]? =some c↔∃d,l[k]? =some d/\c=mirB d:=by
 rw[uJ];cases l[k]? with
 |none=>simp
 |some d=>simp[eq_comm]
theorem mir_ok (S:nOk ((n:Int),l)=true):nOk ((n:Int),l.map mirB)=true:=by
 simp only[nOk,uN,uG,yL,qH]at S|-;refine⟨by simpa using S.1,λ c R=>?_⟩;obtain⟨d,Q,rfl⟩:=uR.1 R;have e:bdIn (n:Int) (mirB d)=bdIn (n:Int) d:=Bo.2
  ⟨λ⟨Z,Y,X,V,U,T⟩=>⟨X,V,Z,Y,λ h=>U h.symm,T⟩,λ⟨Z,Y,X,V,U,T⟩=>⟨X,V,Z,Y,λ h=>U h.symm,T⟩⟩
 rw[e];exact S.2 d Q
def lp (n:Nat)(r:List Int):List Int:=(List.range n).map λ v:Nat=>-(at0 r v)
theorem nA {r:List Int}{v:Nat}(h:v<n):at0 (lp n r) v=-(at0 r v):=by
 rw[at0,uK];simp[lp,h]
theorem xW (X:BdsOk n l){r:List Int}(h:PotB l (zeros l) (λ v=>at0 r v)):PotB (l.map mirB) (zeros (l.map mirB)) (λ v=>at0 (lp n r) v):=by
 intro k c T;obtain⟨d,Z,rfl⟩:=tJ.1 T;have V:=X k d Z;have Y:=(h k d Z).1;refine⟨?_,λ U=>by rw[at0_zeros]at U;omega⟩;dsimp only[mirB]at Y|-;rw[nA xA,nA xA];omega
theorem PA (X:BdsOk n l){r:List Int}(h:PotB (l.map mirB) (zeros (l.map mirB)) (λ v=>at0 r v)):PotB l (zeros l) (λ v=>at0 (lp n r) v):=by
 intro k d Z;have V:=X k d Z;have Y:=(h k (mirB d) (tJ.2 ⟨d,Z,rfl⟩)).1;refine⟨?_,λ U=>by rw[at0_zeros]at U;omega⟩;dsimp only[mirB]at Y|-;rw[nA xA,nA xA];omega
theorem wC (h:BdsOk n l){r:List Int}{k:Nat}{d:Bd}(V:l[k]? =some d):gap (lp n r) d=gap r (mirB d)/\gap (lp n r) (mirB d)=gap r d:=by
 have X:=h k d V;have Z:at0 (lp n r) d.1=-(at0 r d.1):=by
  have:=nA (n:=n) (r:=r) (v:=d.1.toNat) xA
  rwa [show((d.1.toNat:Nat):Int)=d.1 by omega]at this
 have Y:at0 (lp n r) d.2.1=-(at0 r d.2.1):=by
  have:=nA (n:=n) (r:=r) (v:=d.2.1.toNat) xA
  rwa [show((d.2.1.toNat:Nat):Int)=d.2.1 by omega]at this
 simp only[gap,mirB];rw[Z,Y];omega
theorem vW (Y:BdsOk n l)(r:List Int):costB l (lp n r)=costB (l.map mirB) r/\costB (l.map mirB) (lp n r)=costB l r:=by
 simp only[costB,uC];refine⟨iK λ k Z=>?_,iK λ k Z=>?_⟩
 ·obtain⟨d,h⟩:=ak Z;simp only[costAt,h,tJ.2 ⟨d,h,rfl⟩,(wC Y h).1];rfl
 ·obtain⟨d,h⟩:=ak Z;simp only[costAt,h,tJ.2 ⟨d,h,rfl⟩,(wC Y h).2];rfl
theorem lowN_le {h:Nat->Int}:∀{k v:Nat},v<k->cn h k<=h v:=by
 intro k
 induction k with
 |zero=>intro v X;omega
 |succ k V=>
  intro v X;rw[cn];rcases uD v k with Y|Y
  ·have:=V Y;split
   ·rename_i Z;rcases Z with Z|Z
    ·omega
    ·omega
   ·exact this
  ·have:v=k:=xA;subst this;split<;>omega
theorem nt {h:Nat->Int}{m:Int}:∀{k:Nat},0<k->(∀v,v<k->m<=h v)->m<=cn h k:=by
 intro k
 induction k with
 |zero=>intro V;omega
 |succ k X=>
  intro _ Z;rw[cn];have Y:=Z k xA;split
  ·exact Y
  ·rename_i U;exact X xA λ v T=>Z v xA
theorem w9 {v:Nat}(h:v<a.length):at0 (midF a b) v=halfAt a b (topN a b a.length) v-cn (halfAt a b (topN a b a.length)) a.length:=by
 rw[at0,uK];simp[midF,h]
theorem FF (L:nOk ((n:Int),l)=true)(Y:Best n l a f)(K:Best n (l.map mirB) b f2):gl ((n:Int),l) (midF a b)=true/\m7 ((n:Int),l) (midF a b)=m7 ((n:Int),l) a:=by
 obtain⟨Z,hn,hll⟩:=bdsOk_of L;obtain⟨T,_,_⟩:=bdsOk_of (mir_ok L);have E:=best_pot Z Y;have pb:=best_pot T K;have s:=PA Z (potB_zeros pb);have py:=xW Z (potB_zeros E);obtain⟨c1,c2⟩:=vW Z b;obtain⟨c3,c4⟩:=vW Z a;have h1:=(pn Z Y s).1;have h2:=(pn T K py).1;have F:=vX Z Y.fl (λ k=>(Y.pos k).1) Y.dv E;have pt:=Iq Z Y.fl (λ k=>(Y.pos k).1) Y.dv s xA
 have S:fromTo a 34359738368:=λ v=>by have:=best_bd Z Y v;omega
 have O:fromTo b 34359738368:=λ v=>by have:=best_bd T K v;omega
 have M:=u0 S O a.length;have Q:=λ v (V:v<a.length)=>zr (a:=a) (b:=b) V
 generalize ht:topN a b a.length=t at M Q;have X:∀v:Nat,v<n->at0 (midF a b) v=(at0 a v+t-at0 b v)/2-cn (halfAt a b t) a.length:=λ v V=>by
  rw[w9 (by rw[Y.rl];exact V),ht];rfl
 have N:∀v:Nat,v<n->cn (halfAt a b t) a.length<=(at0 a v+t-at0 b v)/2/\0<=cn (halfAt a b t) a.length:=λ v V=>by
  refine⟨lowN_le (h:=halfAt a b t) (by rw[Y.rl];exact V),nt (by rw[Y.rl];omega) λ u hu=>?_⟩;have:=Q u hu;have:=S u;rw[halfAt];omega
 have z:PotB l f (λ v=>at0 (midF a b) v):=by
  intro k d J;have hbb:=Z k d J;obtain⟨a1,B⟩:=E k d J;obtain⟨q,C⟩:=pt k d J;dsimp only at a1 B q C|-;rw[nA xA,nA xA]at q C;rw[X _ xA,X _ xA];exact⟨xA,λ A=>by have:=B A;have:=C A;omega⟩
 have I:(midF a b).length=n:=by simp[midF,Y.rl]
 have R:gl ((n:Int),l) (midF a b)=true:=D6 L I (λ v V=>by
  rw[X v V];have:=N v V;have:=Q v (by rw[Y.rl];exact V);have:=S v;have:=O v;omega) (potB_zeros z)
 refine⟨R,?_⟩;have H:rkOk ((n:Int),l) (midF a b)=true:=by simp only[gl,uN]at R;exact R.1
 have U:=best_feas L Y;have G:rkOk ((n:Int),l) a=true:=by simp only[gl,uN]at U;exact U.1
 rw[cost_is H,cost_is G,vX Z Y.fl (λ k=>(Y.pos k).1) Y.dv z,F]
end mid
set_option maxRecDepth 100000
abbrev RS :=Int×Bool×Int×Int×Int
def mH (l:List Bd)(f:List Int)(k:Nat):List RS:=match l[k]? with
 |some b=>((k:Int),false,b.1,b.2.1,b.2.2.1)::if 0<at0 f k then[((k:Int),true,b.2.1,b.1,-b.2.2.1)]else[]
 |none=>[]
def rsL (l:List Bd)(f:List Int)(k:Nat):List RS:=b8 (mH l f) k
theorem ul {l:List Bd}{f:List Int}{s:RS}(h:s∈rsL l f l.length):∃(k:Nat) (b:Bd),l[k]? =some b/\(s=((k:Int),false,b.1,b.2.1,b.2.2.1)\/(0<at0 f k/\s=((k:Int),true,b.2.1,b.1,-b.2.2.1))):=by
 obtain⟨k,Y,h⟩:=rK.1 h;obtain⟨b,Z⟩:=ak Y;rw[mH,Z]at h;refine⟨k,b,Z,?_⟩;rcases yI.1 h with h|h
 ·exact .inl h
 ·split at h
  ·rename_i c;exact .inr ⟨c,uX.1 h⟩
  ·cases h
theorem yp (l:List Bd)(f:List Int):∀k,(rsL l f k).length<=2*k:=by
 intro k
 induction k with
 |zero=>exact uI _
 |succ k Z=>
  have:(mH l f k).length<=2:=by
   rw[mH];split
   ·split<;>simp
   ·simp
  show(rsL l f k++mH l f k).length<=_;rw[uH];omega
theorem Rj {l:List Bd}{f:List Int}{k:Nat}{b:Bd}(Z:l[k]? =some b):
  ((k:Int),false,b.1,b.2.1,b.2.2.1)∈rsL l f l.length/\(0<at0 f k->((k:Int),true,b.2.1,b.1,-b.2.2.1)∈rsL l f l.length):=by
 have Y:=(uB.1 Z).1;refine⟨rK.2 ⟨k,Y,by rw[mH,Z];exact List.mem_cons_self ..⟩,λ h=>rK.2 ⟨k,Y,by rw[mH,Z];dsimp only;rw[if_pos h];simp⟩⟩
abbrev CS :=List Int×List Int×Int
def cyS (L:List RS)(σ:CS)(i:Nat):CS:=match L[i]? with
 |some s=>if at0 σ.1 s.2.2.2.1<at0 σ.1 s.2.2.1+s.2.2.2.2 then(σ.1.set s.2.2.2.1.toNat (at0 σ.1 s.2.2.1+s.2.2.2.2),σ.2.1.set s.2.2.2.1.toNat (i:Int),s.2.2.2.1)else σ
 |none=>σ
def cyI (L:List RS)(σ:CS):Nat->CS
 |0=>(σ.1,σ.2.1,-1)
 |i+1=>cyS L (cyI L σ i) i
def cyR (L:List RS)(k:Nat):Nat->CS
 |0=>(List.replicate k 0,List.replicate k 0,-1)
 |m+1=>cyI L (cyR L k m) L.length
def o0 (k:Nat)(L:List RS):Prop:=∀(i:Nat) s,L[i]? =some s->0<=s.2.2.1/\s.2.2.1<(k:Int)/\0<=s.2.2.2.1/\s.2.2.2.1<(k:Int)/\s.2.2.1≠s.2.2.2.1/\-16777216<=s.2.2.2.2/\s.2.2.2.2<=16777216
theorem uk {n:Nat}{l:List Bd}{f:List Int}(Z:BdsOk n l):o0 n (rsL l f l.length):=λ i s h=>by
 obtain⟨k,b,Y,rfl|⟨_,rfl⟩⟩:=ul (uA h)
 ·have:=Z k b Y;dsimp only;omega
 ·have:=Z k b Y;dsimp only;omega
theorem BX (k:Nat)(v:Int):at0 (List.replicate k 0) v=0:=by
 rw[at0,gA];split<;>rfl
structure CI (L:List RS)(k m i:Nat)(σ:CS)(τ:Nat->Nat):Prop where
 dl:σ.1.length=k
 ll:σ.2.1.length=k
 now:∀v,τ v<=m*(L.length+1)+i
 set:∀v:Nat,v<k->τ v≠0->∃(j:Nat) (s:RS),at0 σ.2.1 v=j/\L[j]? =some s/\s.2.2.2.1=v/\at0 σ.1 v<=at0 σ.1 s.2.2.1+s.2.2.2.2/\
  (τ v<τ s.2.2.1.toNat->at0 σ.1 v<at0 σ.1 s.2.2.1+s.2.2.2.2)/\(τ v<=L.length\/τ v<τ s.2.2.1.toNat+(L.length+1))
 inj:∀u v,τ u≠0->τ u=τ v->u=v
 done:∀(j:Nat) s,L[j]? =some s->∀P,((j<i/\P=m*(L.length+1)+j+1)\/(i<=j/\1<=m/\P+(L.length+1)=m*(L.length+1)+j+1))->τ s.2.2.1.toNat<=P->
  at0 σ.1 s.2.2.1+s.2.2.2.2<=at0 σ.1 s.2.2.2.1
 atn:(σ.2.2=-1/\∀v,τ v<=m*(L.length+1))\/(0<=σ.2.2/\σ.2.2<(k:Int)/\m*(L.length+1)<τ σ.2.2.toNat)
 bd:∀v:Nat,v<k->-(16777216*((m*(L.length+1)+i:Nat):Int))<=at0 σ.1 v/\at0 σ.1 v<=16777216*((m*(L.length+1)+i:Nat):Int)
theorem CI.next {L:List RS}{k m i:Nat}{σ:CS}{τ:Nat->Nat}(A:o0 k L)(h:CI L k m i σ τ)(hi:i<L.length):∃τ',CI L k m (i+1) (cyS L σ i) τ':=by
 obtain⟨s,O⟩:=ak hi;obtain⟨g1,g2,g3,g4,g5,g6,g7⟩:=A i s O;rw[cyS,O];dsimp only;have hM:∀_:Unit,1<=m->∃Q,m*(L.length+1)=Q+(L.length+1):=λ _ E=>⟨(m-1)*(L.length+1),by
  obtain⟨m',rfl⟩:∃m',m=m'+1:=⟨m-1,xA⟩;rw[qN,Dt];rfl⟩
 have C:m=0->m*(L.length+1)=0:=λ h=>by rw[h,jP]
 obtain⟨d,la,at_⟩:=σ;obtain⟨dl,ll,X,set,M,done,I,H⟩:=h;dsimp only at*;obtain⟨u,hu⟩:∃u:Nat,s.2.2.1=u:=⟨s.2.2.1.toNat,xA⟩;obtain⟨w,hw⟩:∃w:Nat,s.2.2.2.1=w:=⟨s.2.2.2.1.toNat,xA⟩;by_cases c:at0 d s.2.2.2.1<at0 d s.2.2.1+s.2.2.2.2
 ·rw[if_pos c];have T:∀(v:Int),0<=v->at0 (d.set s.2.2.2.1.toNat (at0 d s.2.2.1+s.2.2.2.2)) v=if v=s.2.2.2.1 then at0 d s.2.2.1+s.2.2.2.2 else at0 d v:=λ v V=>by
   rw[iY _ _ _ _ V];by_cases e:v=s.2.2.2.1
   ·rw[if_pos ⟨xA,xA⟩,if_pos e]
   ·rw[if_neg xA,if_neg e]
  have sl:∀(v:Int),0<=v->at0 (la.set s.2.2.2.1.toNat (i:Int)) v=if v=s.2.2.2.1 then(i:Int)else at0 la v:=λ v V=>by
   rw[iY _ _ _ _ V];by_cases e:v=s.2.2.2.1
   ·rw[if_pos ⟨xA,xA⟩,if_pos e]
   ·rw[if_neg xA,if_neg e]
  refine⟨λ v=>if v=w then m*(L.length+1)+i+1 else τ v,⟨by rw[yJ];exact dl,by rw[yJ];exact ll,λ v=>?_,λ v V q=>?_,λ a b B Z=>?_,λ j z U P hP Y=>?_, .inr ⟨g3,g4,?_⟩,λ v V=>?_⟩⟩
  ·(try dsimp only)
   split
   ·omega
   ·have:=X v;omega
  ·(try dsimp only at q|-)
   by_cases e:v=w
   ·subst e;rw[if_pos rfl];refine⟨i,s,by rw[sl _ xA,if_pos hw.symm],O,hw,?_,λ h=>?_,?_⟩
    ·rw[T _ xA,if_pos hw.symm,T _ g1,if_neg g5];exact qR _
    ·rw[if_neg xA]at h;have:=X s.2.2.1.toNat;omega
    ·rw[if_neg xA];rcases qO m with J|J
     ·have:=C J
      left;omega
     ·obtain⟨Q,hQ⟩:=hM () J;rcases uD (Q+i+1) (τ s.2.2.1.toNat)with E|E
      ·right;omega
      ·have:=done i s O (Q+i+1) (.inr ⟨uI _,J,xA⟩) E;omega
   ·rw[if_neg e]at q|-;obtain⟨j,z,e1,S,e3,e4,e5,e6⟩:=set v V q;obtain⟨z1,z2,z3,z4,z5,_⟩:=A j z S;have nv:=X v;have dv:at0 (d.set s.2.2.2.1.toNat (at0 d s.2.2.1+s.2.2.2.2)) v=at0 d v:=by rw[T _ xA,if_neg xA]
    refine⟨j,z,by rw[sl _ xA,if_neg xA];exact e1,S,e3,?_⟩;rw[dv,T _ z1];by_cases R:z.2.2.1=s.2.2.2.1
    ·rw[if_pos R,if_pos xA];rw[R]at e4;exact⟨xA,λ _=>xA, .inr xA⟩
    ·rw[if_neg R,if_neg xA];exact⟨e4,e5,e6⟩
  ·(try dsimp only at B Z)
   have na:=X a;have nb:=X b;by_cases G:a=w
   ·rw[if_pos G]at Z;by_cases N:b=w
    ·rw[G,N]
    ·rw[if_neg N]at Z;omega
   ·rw[if_neg G]at B Z;by_cases N:b=w
    ·rw[if_pos N]at Z;omega
    ·rw[if_neg N]at Z;exact M a b B Z
  ·(try dsimp only at Y)
   obtain⟨z1,z2,z3,z4,z5,_⟩:=A j z U;have hjl:=(uB.1 U).1;rw[T _ z1,T _ z3];by_cases F:j=i
   ·subst F;rw[O]at U;cases U;rw[if_neg g5,if_pos rfl];exact qR _
   ·by_cases R:z.2.2.1.toNat=w
    ·rw[if_pos R]at Y;omega
    ·rw[if_neg R]at Y;have hd:=done j z U P xA Y;rw[if_neg xA];by_cases S:z.2.2.2.1=s.2.2.2.1
     ·rw[if_pos S];rw[S]at hd;omega
     ·rw[if_neg S];exact hd
  ·show m*(L.length+1)<if s.2.2.2.1.toNat=w then m*(L.length+1)+i+1 else τ s.2.2.2.1.toNat
   rw[if_pos xA];omega
  ·rw[T _ xA];split
   ·have:=H s.2.2.1.toNat xA;rw[show((s.2.2.1.toNat:Nat):Int)=s.2.2.1 by omega]at this;omega
   ·have:=H v V;omega
 ·rw[if_neg c];refine⟨τ,⟨dl,ll,λ v=>by have:=X v;omega,set,M,λ j z U P hP Y=>?_,I,λ v V=>by have:=H v V;(try dsimp only);omega⟩⟩;by_cases F:j=i
  ·subst F;rw[O]at U;cases U
   (try dsimp only)
   omega
  ·exact done j z U P xA Y
theorem CI.inner {L:List RS}{k m:Nat}{σ:CS}{τ:Nat->Nat}(Y:o0 k L)(h:CI L k m 0 (cyI L σ 0) τ):∀i,i<=L.length->∃Z,CI L k m i (cyI L σ i) Z
 |0,_=>⟨τ,h⟩
 |i+1,V=>by
  obtain⟨Z,X⟩:=CI.inner Y h i xA;exact X.next Y xA
theorem CI.turn {L:List RS}{k m:Nat}{σ:CS}{τ:Nat->Nat}(h:CI L k m L.length σ τ):CI L k (m+1) 0 (cyI L σ 0) τ:=by
 obtain⟨T,R,Z,set,X,done,U,b⟩:=h;have e:(m+1)*(L.length+1)=m*(L.length+1)+L.length+1:=by rw[qN];omega
 refine⟨T,R,λ v=>by have:=Z v;omega,set,X,λ j s V P Q Y=>?_, .inl ⟨rfl,λ v=>by have:=Z v;omega⟩,λ v S=>by have:=b v S;dsimp only[cyI];omega⟩;have O:=(uB.1 V).1;exact done j s V P xA Y
theorem CI.all {L:List RS}{k:Nat}(Z:o0 k L):∀m,∃τ,CI L k m L.length (cyR L k (m+1)) τ
 |0=>by
  refine CI.inner (τ:=λ _=>0) Z ⟨by simp[cyI,cyR],by simp[cyI,cyR],λ v=>uF _,λ v _ h=>absurd rfl h,λ u v h=>absurd rfl h,λ j s X P Y=>xA, .inl ⟨rfl,λ v=>uF _⟩,λ v V=>?_⟩ L.length (uI _);rw[cyI,cyR];dsimp only;rw[BX];omega
 |m+1=>by
  obtain⟨τ,h⟩:=CI.all Z m;exact CI.inner Z h.turn L.length (uI _)
theorem CI.quiet {L:List RS}{k m:Nat}{σ:CS}{τ:Nat->Nat}(h:CI L k m L.length σ τ)(T:σ.2.2<0):∀s,s∈L->at0 σ.1 s.2.2.1+s.2.2.2.2<=at0 σ.1 s.2.2.2.1:=by
 intro s X;obtain⟨j,Y⟩:=qC.1 X;have Z:=(uB.1 Y).1;rcases h.atn with⟨_,V⟩|⟨U,_⟩
 ·exact h.done j s Y _ (.inl ⟨Z,rfl⟩) (by have:=V s.2.2.1.toNat;omega)
 ·omega
def aB (L:List RS)(la:List Int):List Way:=la.map λ j=>match L[j.toNat]? with
 |some s=>(0,s.2.2.1,(s.2.2.2.1,s.2.2.2.2,s.1,s.2.1),false)
 |none=>ik
theorem TY {L:List RS}{la:List Int}{v:Int}{j:Nat}{s:RS}(h:0<=v)(V:v<la.length)(Y:at0 la v=j)(X:L[j]? =some s):wAt (aB L la) v=(0,s.2.2.1,(s.2.2.2.1,s.2.2.2.2,s.1,s.2.1),false):=by
 have Z:=fP h V;rw[wAt,aB,uJ,Z,Y,qB,yN,uK,X]
theorem E8 {P:Nat->Prop}:∀n,P n->∃k,P k/\k<=n/\∀j,j<k->¬P j:=by
 intro n
 induction n using Nat.strongRecOn with
 |ind n U=>
  intro h;by_cases c:∃j,j<n/\P j
  ·obtain⟨j,Z,Y⟩:=c;obtain⟨k,X,T,V⟩:=U j Z Y;exact⟨k,X,xA,V⟩
  ·exact⟨n,h,uI _,λ j Z Y=>c ⟨j,Z,Y⟩⟩
structure Clo (n:Nat)(l:List Bd)(f:List Int)(L:List RS)(la:List Int)(c:Int)(K:Nat):Prop where
 pos:1<=K
 le:K<=n
 back:az (aB L la) c K=c
 new:∀q,1<=q->q<K->az (aB L la) c q≠c
 ok:∀q,q<K->0<=az (aB L la) c q/\az (aB L la) c q<(n:Int)/\∃(j:Nat) (s:RS),at0 la (az (aB L la) c q)=j/\L[j]? =some s/\az (aB L la) c (q+1)=s.2.2.1/\aR (aB L la) c q=(s.2.2.2.1,s.2.2.2.2,s.1,s.2.1)
 chain:ChainOk n l f (aB L la) c K
 gain:1<=aT (λ q=>(aR (aB L la) c q).2.1) K
theorem Ia (g:Nat->Int):∀n,aT (λ q=>g (q+1)-g q) n=g n-g 0
 |0=>by simp[aT]
 |n+1=>by rw[eT,Ia g n];omega
theorem Td {g:Nat->Int}{n i:Nat}(h:∀q,q<n->0<=g q)(Z:i<n)(Y:0<g i):1<=aT g n:=by
 have:=sx (g:=λ _=>0) (h:=g) (n:=n) (i:=i) (λ v X=>h v X) Z Y;rw[ks]at this;omega
theorem CI.found {n:Nat}{l:List Bd}{f:List Int}(hb:BdsOk n l){σ:CS}{τ:Nat->Nat}(h:CI (rsL l f l.length) n n (rsL l f l.length).length σ τ)(X:¬σ.2.2<0):
  (∀q,q<=n->0<=az (aB (rsL l f l.length) σ.2.1) σ.2.2 q/\az (aB (rsL l f l.length) σ.2.1) σ.2.2 q<(n:Int)/\∃(j:Nat) (s:RS),at0 σ.2.1 (az (aB (rsL l f l.length) σ.2.1) σ.2.2 q)=j/\(rsL l f l.length)[j]? =some s/\az (aB (rsL l f l.length) σ.2.1) σ.2.2 (q+1)=s.2.2.1)/\
  ∃K,Clo n l f (rsL l f l.length) σ.2.1 (az (aB (rsL l f l.length) σ.2.1) σ.2.2 n) K:=by
 have hg:=uk (f:=f) hb;have z:∀(j:Nat) s,(rsL l f l.length)[j]? =some s->_:=λ j s h=>ul (uA h)
 generalize rsL l f l.length=L at*;obtain⟨d,la,c⟩:=σ;dsimp only at*;obtain⟨dl,ll,now,set,inj,done,atn,bd⟩:=h;dsimp only at*;obtain⟨a1,a2,a3⟩:0<=c/\c<(n:Int)/\n*(L.length+1)<τ c.toNat:=by
  rcases atn with⟨M,_⟩|M
  ·omega
  ·exact M
 have one:∀v:Int,0<=v->v<(n:Int)->τ v.toNat≠0->∃(j:Nat) (s:RS),at0 la v=j/\L[j]? =some s/\s.2.2.2.1=v/\wAt (aB L la) v=(0,s.2.2.1,(s.2.2.2.1,s.2.2.2.2,s.1,s.2.1),false)/\
   at0 d v<=at0 d s.2.2.1+s.2.2.2.2/\(τ v.toNat<τ s.2.2.1.toNat->at0 d v<at0 d s.2.2.1+s.2.2.2.2)/\(τ v.toNat<=L.length\/τ v.toNat<τ s.2.2.1.toNat+(L.length+1)):=λ v h0 M ht=>by
  obtain⟨j,s,U,Y,T,Z,V,F⟩:=set v.toNat xA ht;rw[show((v.toNat:Nat):Int)=v by omega]at U T Z V;exact⟨j,s,U,Y,T,TY h0 xA U Y,Z,V,F⟩
 have hx:∀q,q<=n->0<=az (aB L la) c q/\az (aB L la) c q<(n:Int)/\(n-q)*(L.length+1)<τ (az (aB L la) c q).toNat:=by
  intro q
  induction q with
  |zero=>intro _;exact⟨a1,a2,a3⟩
  |succ q ih=>
   intro hqn;obtain⟨Q,O,G⟩:=ih xA;obtain⟨j,s,U,Y,T,Z,_,_,F⟩:=one _ Q O xA;obtain⟨g1,g2,_⟩:=hg j s Y;rw[im,Z];dsimp only;have e:(n-q)*(L.length+1)=(n-(q+1))*(L.length+1)+(L.length+1):=by
    rw[show n-q=n-(q+1)+1 by omega,qN,Dt]
   exact⟨g1,g2,xA⟩
 have S:∀q,q<=n->0<=az (aB L la) c q/\az (aB L la) c q<(n:Int)/\τ (az (aB L la) c q).toNat≠0:=λ q X=>by
  have:=hx q X;exact⟨this.1,this.2.1,xA⟩
 refine⟨λ q X=>?_,?_⟩
 ·obtain⟨Q,O,G⟩:=S q X;obtain⟨j,s,U,Y,T,Z,_⟩:=one _ Q O G;exact⟨Q,O,j,s,U,Y,by rw[im,Z]⟩
 obtain⟨a,b,hab,hbn,he⟩:∃a b,a<b/\b<=n/\az (aB L la) c a=az (aB L la) c b:=by
  apply gH;intro H;have:=wJ (g:=λ q=>(az (aB L la) c q).toNat) (k:=n+1) (n:=n) (λ i hi=>by have:=S i xA;(try dsimp only);omega)
   (λ i j C hj J=>H ⟨i,j,C,xA,by have:=S i xA;have:=S j xA;(try dsimp only at J);omega⟩)
  omega
 have N:∀t,az (aB L la) c (a+t)=az (aB L la) c (b+t):=λ t=>by rw[i5,i5,he]
 have hret:az (aB L la) (az (aB L la) c n) (b-a)=az (aB L la) c n:=by
  rw[<-i5,show n+(b-a)=b+(n-a) by omega,<-N,show a+(n-a)=n by omega]
 obtain⟨K,⟨k1,k2⟩,k3,k4⟩:=E8 (P:=λ q=>1<=q/\az (aB L la) (az (aB L la) c n) q=az (aB L la) c n) (b-a) ⟨xA,hret⟩;have I:∀q,q<=K->0<=az (aB L la) (az (aB L la) c n) q/\az (aB L la) (az (aB L la) c n) q<(n:Int)/\τ (az (aB L la) (az (aB L la) c n) q).toNat≠0:=λ q X=>by
  rw[<-i5];rcases uD (n+q) b with M|M
  ·exact S _ xA
  ·rw[show n+q=b+(n+q-b) by omega,<-N];exact S _ xA
 generalize az (aB L la) c n=e at*;have R:∀q,q<K->∃(j:Nat) (s:RS),at0 la (az (aB L la) e q)=j/\L[j]? =some s/\s.2.2.2.1=az (aB L la) e q/\az (aB L la) e (q+1)=s.2.2.1/\aR (aB L la) e q=(s.2.2.2.1,s.2.2.2.2,s.1,s.2.1)/\
   at0 d (az (aB L la) e q)<=at0 d s.2.2.1+s.2.2.2.2/\(τ (az (aB L la) e q).toNat<τ s.2.2.1.toNat->at0 d (az (aB L la) e q)<at0 d s.2.2.1+s.2.2.2.2):=λ q X=>by
  obtain⟨Q,O,G⟩:=I q xA;obtain⟨j,s,U,Y,T,Z,V,F,_⟩:=one _ Q O G;exact⟨j,s,U,Y,T,by rw[im,Z],by rw[aR,Z],V,F⟩
 have B:∀i j,i<j->j<K->az (aB L la) e i≠az (aB L la) e j:=λ i j C hj J=>by
  refine k4 (i+(K-j)) xA ⟨xA,?_⟩;rw[i5,J,<-i5,show j+(K-j)=K by omega,k2]
 refine⟨K,k1,xA,k2,λ q q1 q2 J=>k4 q q2 ⟨q1,J⟩,λ q X=>?_,⟨λ q X=>?_,B⟩,?_⟩
 ·obtain⟨j,s,U,Y,T,Z,V,_⟩:=R q X;obtain⟨Q,O,_⟩:=I q xA;exact⟨Q,O,j,s,U,Y,Z,V⟩
 ·obtain⟨j,s,U,Y,T,Z,V,_⟩:=R q X;obtain⟨k,b,hk,rfl|⟨hp,rfl⟩⟩:=z j s Y
  ·exact⟨k,b,hk,by rw[V], .inl ⟨by rw[V],Z.symm,T⟩⟩
  ·exact⟨k,b,hk,by rw[V], .inr ⟨by rw[V],hp,Z.symm,T⟩⟩
 ·
  have hs:∃q,q<K/\τ (az (aB L la) e q).toNat<τ (az (aB L la) e (q+1)).toNat:=by
   apply gH;intro H;have hd:∀q,q<K->τ (az (aB L la) e (q+1)).toNat<=τ (az (aB L la) e q).toNat:=λ q X=>Nat.not_lt.1 λ J=>H ⟨q,X,J⟩
   have E:∀q,q<K->τ (az (aB L la) e (q+1)).toNat<=τ (az (aB L la) e 1).toNat:=by
    intro q
    induction q with
    |zero=>intro _;exact uI _
    |succ q ih=>intro X;exact gY (hd (q+1) X) (ih xA)
   have M:=E (K-1) xA;rw[show K-1+1=K by omega,k2]at M;have h2:τ (az (aB L la) e 1).toNat<=τ e.toNat:=hd 0 xA;obtain⟨Q,O,G⟩:=I 0 xA;have i0:az (aB L la) e 0=e:=rfl;rw[i0]at Q O G;have h3:=inj e.toNat (az (aB L la) e 1).toNat G xA;obtain⟨j,s,U,Y,T,Z,_⟩:=R 0 xA;obtain⟨g1,g2,g3,g4,g5,_⟩:=hg j s Y;rw[i0]at T;rw[yU]at Z;omega
  obtain⟨q0,hq0,A⟩:=hs;have hsum:aT (λ q=>at0 d (az (aB L la) e (q+1))-at0 d (az (aB L la) e q)+(aR (aB L la) e q).2.1) K=aT (λ q=>(aR (aB L la) e q).2.1) K:=by
   rw[n6 (λ q=>at0 d (az (aB L la) e (q+1))-at0 d (az (aB L la) e q)),Ia (λ q=>at0 d (az (aB L la) e q)),k2];show at0 d e-at0 d e+_=_;omega
  rw[<-hsum];refine Td (i:=q0) (λ q X=>?_) hq0 ?_
  ·obtain⟨j,s,U,Y,T,Z,V,F,e7⟩:=R q X;rw[Z,V];dsimp only;omega
  ·obtain⟨j,s,U,Y,T,Z,V,F,e7⟩:=R q0 hq0;rw[Z]at A;have:=e7 A;rw[Z,V];dsimp only;omega
theorem KL {l:List Bd}{f:List Int}{i:Nat}{b:Bd}{x:Int}(V:f.length=l.length)(X:l[i]? =some b):fS l (f.set i (at0 f i+x))=fS l f+x*b.2.2.1:=by
 have Y:=(uB.1 X).1;refine zh (i:=i) Y λ k U=>?_
 obtain⟨c,Z⟩:=ak U;simp only[oq,Z];rw[iY _ _ _ _ xA];by_cases h:i=k
 ·subst h;rw[X]at Z;cases Z;rw[if_pos ⟨rfl,xA⟩,if_pos rfl,Int.add_mul]
 ·rw[if_neg xA,if_neg h,jM]
section clo
variable {n:Nat}{l:List Bd}{f:List Int}{L:List RS}{la:List Int}{c m:Int}{K:Nat}
theorem KR (X:f.length=l.length)(h:ChainOk n l f (aB L la) c K)(S:∀q,q<K->∃(k:Nat) (b:Bd),l[k]? =some b/\(aR (aB L la) c q).2.2.1=k/\(((aR (aB L la) c q).2.2.2=false/\(aR (aB L la) c q).2.1=b.2.2.1)\/((aR (aB L la) c q).2.2.2=true/\(aR (aB L la) c q).2.1=-b.2.2.1))):
  ∀q,q<=K->fS l (cG (aB L la) f m c q)=fS l f+m*aT (λ q=>(aR (aB L la) c q).2.1) q:=by
 intro q
 induction q with
 |zero=>intro _;show fS l f=fS l f+m*0;omega
 |succ q R=>
  intro Q;obtain⟨k,b,T,V,U⟩:=S q xA;rw[sr,V,uK,KL (by rw[l9,X]) T,R xA,eT,zN,<-kH];rcases U with⟨Z,Y⟩|⟨Z,Y⟩
  ·rw[Y,show(if(aR (aB L la) c q).2.2.2=true then -m else m)=m by rw[Z];rfl]
  ·rw[Y,show(if(aR (aB L la) c q).2.2.2=true then -m else m)=-m by rw[Z];rfl,Int.neg_mul,Int.mul_neg]
end clo
attribute [local irreducible] ao wpG ah ax
abbrev rsD (s:RS):D:= .ag [.int s.1, .bool s.2.1, .int s.2.2.1, .int s.2.2.2.1, .int s.2.2.2.2]
theorem Rk {l:List Bd}{f:List Int}{k:Nat}{b:Bd}(h:l[k]? =some b):rsL l f (k+1)=rsL l f k++((k:Int),false,b.1,b.2.1,b.2.2.1)::if 0<at0 f k then[((k:Int),true,b.2.1,b.1,-b.2.2.1)]else[]:=by
 show rsL l f k++mH l f k=_;rw[mH,h]
theorem Rl (n:Nat)(l:List Bd)(f:List Int)(K:nOk ((n:Int),l)=true)(Z:f.length=l.length):
  ax Tryz.prog 135 [.d (nD ((n:Int),l)), .ref 1000 1 0 l.length l.length] [(1000, .row 1 (f.map D.int)),(2000, .dead)] (.ref 2000 5 0 (rsL l f l.length).length (rsL l f l.length).length) [(1000, .row 1 (f.map D.int)),(2000, .row 5 ((rsL l f l.length).map rsD))]:=by
 obtain⟨O,F,G⟩:=bdsOk_of K;refine kM Tryz.func135 ?_;intro B X E;refine fc ?_;refine ac kP aa aa ?_;refine aC _ (dg 5 901 5 rfl rfl) ?_;refine aq (λ(k:Nat)=>k<=l.length) (λ k=>[(1, .ref 1000 1 0 l.length l.length),(2, .ptr 2 0 0 0),(5, .ref 901 5 0 (rsL l f k).length (rsL l f k).length),(6, .int k)]) (λ k=>[(2, .cells [.int n, .d (cX l)]),(1000, .row 1 (f.map D.int)),(901, .row 5 ((rsL l f k).map rsD))]) (λ k=>l.length-k) 0 ?_ ?_ ?_
 ·exact uF _
 ·exact eL [] _ _ (by refine⟨?_,?_⟩<;>(repeat' first|exact fmn|refine fmc ⟨(by first|rfl|(simp(disch:=omega) only[go_sem,simprocAttr,inL,rsL,b8,uY,uU];first|done|omega|(congr 1;done))),?_⟩);done)
 ·intro k Q;have I:=yp l f k;rcases uD k l.length with T|J
  ·obtain⟨b,h⟩:=ak T;have N:=O k b h;have S:=aK (r:=f) (i:=k) xA;have Y:=Rk (f:=f) h;generalize rsL l f k=R at*;have V:∀x:D,R.length+1<=(R.map rsD++[x]).length:=λ x=>xB
   have U:∀x:D,(R.map rsD++[x]).take (R.length+1)=R.map rsD++[x]:=λ x=>uE xB
   by_cases c:0<at0 f k
   ·rw[if_pos c]at Y;refine kw kP (bV h S Z c V U @aA) aa ?_
    repeat' first|exact True.intro|refine Bn.mk ?_ ?_|intro H
    refine⟨k+1,?_,eL [(901,47)] _ _ (by refine⟨?_,?_⟩<;>(repeat' first|exact fmn|refine fmc ⟨(by first|rfl|(simp(disch:=omega) only[go_sem,simprocAttr,inL,Y,uH,uV,uU,uO,uS,uY,qG,gK,gB];first|done|omega|(congr 1;done))),?_⟩);done),?_⟩
    ·omega
    ·omega
   ·rw[if_neg c]at Y;refine ac kP (aQ h S Z c @aA) aa ?_;refine⟨k+1,?_,kN (bV Y @uH.{0} @uV.{0} @uU.{0} @uO.{0,0} @uS.{0,0} @uY.{0,0}) [(901,30)],?_⟩
    ·omega
    ·omega
  ·have Q:k=l.length:=xA;subst Q;refine ac kP aa aa ?_;refine aV ?_;refine⟨_,cI.1 (kN (L:=[(4, .ref 2000 5 0 (rsL l f l.length).length (rsL l f l.length).length)]) (M:=[(1000, .row 1 (f.map D.int)),(2000, .row 5 ((rsL l f l.length).map rsD))]) aa [(2000,901)]),?_⟩;exact⟨rfl,fmc ⟨rfl,fmc ⟨rfl,fmn⟩⟩⟩
def lH (L:List RS)(n:Nat):Bool:=(List.range (n+1)).any λ m=>decide ((cyR L n (m+1)).2.2<0)
def bU (L:List RS)(n:Nat):List Int:=(cyR L n (n+1)).2.1
def cyC (L:List RS)(n:Nat):Int:=az (aB L (bU L n)) (cyR L n (n+1)).2.2 n
def cyK (L:List RS)(n:Nat):Nat:=match dK (λ q=>decide (az (aB L (bU L n)) (cyC L n) (q+1)=cyC L n)) n with
 |some q=>q+1
 |none=>0
def cyO (L:List RS)(n k:Nat):List Int:=(List.range k).map λ q=>at0 (bU L n) (az (aB L (bU L n)) (cyC L n) q)
theorem DG (L:List RS)(n k:Nat):cyO L n (k+1)=cyO L n k++[at0 (bU L n) (az (aB L (bU L n)) (cyC L n) k)]:=by
 rw[cyO,cyO,qE,uO];rfl
theorem DF (L:List RS)(n k:Nat):(cyO L n k).length=k:=by simp[cyO]
section search
variable {n:Nat}{l:List Bd}{f:List Int}
theorem Lb (Y:BdsOk n l)(h:lH (rsL l f l.length) n=true):∃d:List Int,∀s,s∈rsL l f l.length->at0 d s.2.2.1+s.2.2.2.2<=at0 d s.2.2.2.1:=by
 obtain⟨m,_,X⟩:=gW.1 h;obtain⟨V,Z⟩:=CI.all (uk (f:=f) Y) m;exact⟨_,Z.quiet (Bb X)⟩
theorem vY (U:BdsOk n l)(h:lH (rsL l f l.length) n=false):(∀m,m<=n->¬(cyR (rsL l f l.length) n (m+1)).2.2<0)/\
  (∀q,q<=n->0<=az (aB (rsL l f l.length) (bU (rsL l f l.length) n)) (cyR (rsL l f l.length) n (n+1)).2.2 q/\az (aB (rsL l f l.length) (bU (rsL l f l.length) n)) (cyR (rsL l f l.length) n (n+1)).2.2 q<(n:Int)/\
   ∃(j:Nat) (s:RS),at0 (bU (rsL l f l.length) n) (az (aB (rsL l f l.length) (bU (rsL l f l.length) n)) (cyR (rsL l f l.length) n (n+1)).2.2 q)=j/\(rsL l f l.length)[j]? =some s/\az (aB (rsL l f l.length) (bU (rsL l f l.length) n)) (cyR (rsL l f l.length) n (n+1)).2.2 (q+1)=s.2.2.1)/\
  Clo n l f (rsL l f l.length) (bU (rsL l f l.length) n) (cyC (rsL l f l.length) n) (cyK (rsL l f l.length) n)/\(bU (rsL l f l.length) n).length=n:=by
 have Y:∀m,m<=n->¬(cyR (rsL l f l.length) n (m+1)).2.2<0:=λ m R V=>by
  have:=qH.1 h m (yD.2 xA);exact this (uZ V)
 obtain⟨Q,X⟩:=CI.all (uk (f:=f) U) n;obtain⟨T,K,Z⟩:=X.found U (Y n (uI _));refine⟨Y,T,?_,X.ll⟩;have e:cyK (rsL l f l.length) n=K:=by
  have:=Ef (q:=λ q=>decide (az (aB (rsL l f l.length) (bU (rsL l f l.length) n)) (cyC (rsL l f l.length) n) (q+1)=cyC (rsL l f l.length) n)) (k:=K-1) (m:=n) (by have:=Z.pos;have:=Z.le;omega)
   (λ j S=>uW (Z.new (j+1) xA xA)) (uZ (by rw[show K-1+1=K by have:=Z.pos;omega];exact Z.back))
  rw[cyK,this];have:=Z.pos;dsimp only;omega
 rw[e];exact Z
theorem CI.at {k:Nat}{L:List RS}(Z:o0 k L):∀(m i:Nat),i<=L.length->∃τ,CI L k m i (cyI L (cyR L k m) i) τ
 |0,i,Y=>CI.inner (τ:=λ _=>0) Z ⟨by simp[cyI,cyR],by simp[cyI,cyR],λ v=>uF _,λ v _ h=>absurd rfl h,λ u v h=>absurd rfl h,λ j s V P X=>xA, .inl ⟨rfl,λ v=>uF _⟩,λ v U=>by rw[cyI,cyR];dsimp only;rw[BX];omega⟩ i Y
 |m+1,i,Y=>by
  obtain⟨τ,h⟩:=CI.all Z m;exact CI.inner Z h.turn i Y
end search
theorem DE {L:List RS}{σ:CS}{i:Nat}{s:RS}(h:L[i]? =some s):cyI L σ (i+1)=if at0 (cyI L σ i).1 s.2.2.2.1<at0 (cyI L σ i).1 s.2.2.1+s.2.2.2.2 then((cyI L σ i).1.set s.2.2.2.1.toNat (at0 (cyI L σ i).1 s.2.2.1+s.2.2.2.2),(cyI L σ i).2.1.set s.2.2.2.1.toNat (i:Int),s.2.2.2.1)else cyI L σ i:=by
 rw[cyI,cyS,h]
theorem Lc {L:List RS}{n m i:Nat}(Z:o0 n L)(hL:L.length<=8192)(S:n<=2048)(T:m<=n)(Y:i<=L.length):(cyI L (cyR L n m) i).1.length=n/\(cyI L (cyR L n m) i).2.1.length=n/\∀v:Nat,v<n->-281851000000000<=at0 (cyI L (cyR L n m) i).1 v/\at0 (cyI L (cyR L n m) i).1 v<=281851000000000:=by
 obtain⟨R,h⟩:=CI.at Z m i Y;refine⟨h.dl,h.ll,λ v X=>?_⟩;have V:=h.bd v X;have U:m*(L.length+1)<=2048*8193:=jW xA xA;omega
theorem Qv (n:Nat)(l:List Bd)(f:List Int)(hg:nOk ((n:Int),l)=true):
  ax Tryz.prog 136 [.d (.sl ((rsL l f l.length).map rsD)), .int n] [(2000, .dead)] (if lH (rsL l f l.length) n then .nilS else .ref 2000 1 0 (cyK (rsL l f l.length) n) (cyK (rsL l f l.length) n)) [(2000,if lH (rsL l f l.length) n then .dead else .row 1 ((cyO (rsL l f l.length) n (cyK (rsL l f l.length) n)).map D.int))]:=by
 obtain⟨hb,hn,hl⟩:=bdsOk_of hg;have R:=uk (f:=f) hb;have hL:(rsL l f l.length).length<=8192:=by have:=yp l f l.length;omega
 have E:=λ m i hm C=>Lc (m:=m) (i:=i) R hL hn hm C
 rcases V:lH (rsL l f l.length) n with _|_
 ·obtain⟨q1,q2,q3,q4⟩:=vY hb V;obtain⟨p1,p2,p3,p4,p5,_,_⟩:=q3;rw[if_neg xC,if_neg xC];clear V;generalize rsL l f l.length=L at*;refine kM Tryz.func136 ?_;intro B X w0;refine fc ?_;refine ac kP aa aa ?_;refine aq (λ(m:Nat)=>m<=n+1) (λ m=>[(0, .d (.sl (L.map rsD))),(1, .int n),(5, .ref 14 1 0 n n),(6, .ref 16 1 0 n n),(7, .int (cyR L n m).2.2),(8, .int m)]) (λ m=>[(14, .row 1 ((cyR L n m).1.map D.int)),(16, .row 1 ((cyR L n m).2.1.map D.int))]) (λ m=>n+1-m) 0 ?_ ?_ ?_
  ·exact uF _
  ·exact kN (ai @cyR.eq_1 @yT.{0,0}) []
  ·intro m hm;rcases uD m (n+1)with hlt|hge
   ·refine ac kP aa aa ?_;refine aq (λ(i:Nat)=>i<=L.length) (λ i=>[(0, .d (.sl (L.map rsD))),(1, .int n),(5, .ref 14 1 0 n n),(6, .ref 16 1 0 n n),(7, .int (cyI L (cyR L n m) i).2.2),(8, .int m),(9, .int i)]) (λ i=>[(14, .row 1 ((cyI L (cyR L n m) i).1.map D.int)),(16, .row 1 ((cyI L (cyR L n m) i).2.1.map D.int))]) (λ i=>L.length-i) 0 ?_ ?_ ?_
    ·exact uF _
    ·exact kN (ae @cyI.eq_1) []
    ·intro i C;obtain⟨K,J,I⟩:=E m i xA C;rcases uD i L.length with O|hig
     ·obtain⟨s,U⟩:=ak O;obtain⟨g1,g2,g3,g4,g5,g6,g7⟩:=R i s U;have Z:=DE (σ:=cyR L n m) U;generalize cyI L (cyR L n m) i=σ at*;obtain⟨d,la,at_⟩:=σ;obtain⟨sb,sk,u,w,ga⟩:=s;dsimp only at*;obtain⟨u,rfl⟩:∃x:Nat,u=x:=⟨u.toNat,xA⟩;obtain⟨w,rfl⟩:∃x:Nat,w=x:=⟨w.toNat,xA⟩;have G:=aK (r:=d) (i:=u) xA;have F:=aK (r:=d) (i:=w) xA;have H:=aK (r:=la) (i:=w) xA;have bu:=I u xA;have bw:=I w xA;rw[uK]at Z;by_cases c:at0 d w<at0 d u+ga
      ·rw[if_pos c]at Z;refine kw kP (bV U G F H K J c) aa ?_
       repeat' first|exact True.intro|refine Bn.mk ?_ ?_|intro S
       refine⟨i+1,?_,eL [] _ _ (by refine⟨?_,?_⟩<;>(repeat' first|exact fmn|refine fmc ⟨(by first|rfl|(simp(disch:=omega) only[go_sem,simprocAttr,inL,Z,yW];first|done|omega|(congr 1;done))),?_⟩);done),?_⟩
       ·omega
       ·omega
      ·rw[if_neg c]at Z;refine ac kP (bV U G F H K J c) aa ?_;refine⟨i+1,?_,kN (ae Z) [],?_⟩
       ·omega
       ·omega
     ·have Q:i=L.length:=xA;subst Q;have eR:cyI L (cyR L n m) L.length=cyR L n (m+1):=rfl;have N:=q1 m xA;rw[eR];refine ac kP (ae N) aa ?_;refine⟨m+1,?_,kN aa [],?_⟩
      ·omega
      ·omega
   ·have hme:m=n+1:=xA;subst hme;rw[show(cyR L n (n+1)).2.1=bU L n from rfl];have eC:az (aB L (bU L n)) (cyR L n (n+1)).2.2 n=cyC L n:=rfl;refine ac kP aa aa ?_;refine aq (λ(q:Nat)=>q<=n) (λ q=>[(0, .d (.sl (L.map rsD))),(1, .int n),(6, .ref 16 1 0 n n),(7, .int (az (aB L (bU L n)) (cyR L n (n+1)).2.2 q)),(10, .int q)]) (λ q=>[(16, .row 1 ((bU L n).map D.int))]) (λ q=>n-q) 0 ?_ ?_ ?_
    ·exact uF _
    ·exact kN (ae @az.eq_1) []
    ·intro q N;rcases uD q n with hql|hqg
     ·obtain⟨r1,r2,j,s,r3,r4,r5⟩:=q2 q N;generalize az (aB L (bU L n)) (cyR L n (n+1)).2.2 q=v at*;obtain⟨v,rfl⟩:∃x:Nat,v=x:=⟨v.toNat,xA⟩;have lv:=aK (r:=bU L n) (i:=v) xA;rw[r3]at lv;have A:=(uB.1 r4).1;refine kw kP (aE lv r4 q4 A) aa ?_
      repeat' first|exact True.intro|refine Bn.mk ?_ ?_|intro S
      refine⟨q+1,?_,eL [] _ _ (by refine⟨?_,?_⟩<;>(repeat' first|exact fmn|refine fmc ⟨(by first|rfl|(simp(disch:=omega) only[go_sem,simprocAttr,inL,r5];first|done|omega|(congr 1;done))),?_⟩);done),?_⟩
      ·omega
      ·omega
     ·have hqe:q=n:=xA;subst hqe;rw[eC];obtain⟨r1,r2,j,s,r3,r4,r5,_⟩:=p5 0 xA;have e0:=DG L q 0;rw[az]at r1 r2 r3 e0;rw[yU]at r5 e0;rw[r3,show cyO L q 0=[]from rfl,gB]at e0;obtain⟨c,S⟩:∃x:Nat,cyC L q=x:=⟨(cyC L q).toNat,xA⟩;have lv:=aK (r:=bU L q) (i:=c) xA;rw[<-S,r3]at lv;have r5c:az (aB L (bU L q)) (c:Int) 1=s.2.2.1:=by rw[<-S];exact r5
      have A:=(uB.1 r4).1;refine ac (cE (Nat.beq 104) (b:=false)) (aE S lv r4 q4) aa ?_;refine aq (λ(k:Nat)=>1<=k/\k<=cyK L q) (λ k=>[(0, .d (.sl (L.map rsD))),(6, .ref 16 1 0 q q),(7, .int (cyC L q)),(11, .ref 901 1 0 (cyO L q k).length (cyO L q k).length),(12, .int (az (aB L (bU L q)) (cyC L q) k))]) (λ k=>[(16, .row 1 ((bU L q).map D.int)),(901, .row 1 ((cyO L q k).map D.int))]) (λ k=>cyK L q-k) 1 ?_ ?_ ?_
      ·exact⟨uI _,p1⟩
      ·exact eL [(901,104)] _ _ (by refine⟨?_,?_⟩<;>(repeat' first|exact fmn|refine fmc ⟨(by first|rfl|(simp(disch:=omega) only[go_sem,simprocAttr,inL,S,r5c,e0,uY,uS,uV,uU];first|done|omega|(congr 1;done))),?_⟩);done)
      ·rintro k ⟨hk1,hk2⟩;have Y:=DF L q k;rcases uD k (cyK L q)with z|hkg
       ·obtain⟨t1,t2,j',s',t3,t4,t5,_⟩:=p5 k z;have hne:=p4 k hk1 z;have Z:=DG L q k;rw[t3]at Z;have hjl':=(uB.1 t4).1;generalize az (aB L (bU L q)) (cyC L q) k=v at*;obtain⟨v,rfl⟩:∃x:Nat,v=x:=⟨v.toNat,xA⟩;have lw:=aK (r:=bU L q) (i:=v) xA;rw[t3]at lw;have htk:((cyO L q k).map D.int).take k=(cyO L q k).map D.int:=uE (by simp[Y]);refine ac kP (bV hne lw t4 q4 Y htk @aA) aa ?_;refine⟨k+1,?_,eL [(901,130)] _ _ (by refine⟨?_,?_⟩<;>(repeat' first|exact fmn|refine fmc ⟨(by first|rfl|(simp(disch:=omega) only[go_sem,simprocAttr,inL,Z,t5,uH,yO,uO,uS,uY,Y];first|done|omega|(congr 1;done))),?_⟩);done),?_⟩
        ·omega
        ·omega
       ·have hke:k=cyK L q:=xA;subst hke;rw[p3,Y];refine ac kP aa aa ?_;refine aV ?_;refine⟨_,cI.1 (kN (L:=[(4, .ref 2000 1 0 (cyK L q) (cyK L q))]) (M:=[(2000, .row 1 ((cyO L q (cyK L q)).map D.int))]) (ae Y) [(2000,901)]),?_⟩;exact⟨rfl,fmc ⟨rfl,fmn⟩⟩
 ·rw[if_pos rfl,if_pos rfl];obtain⟨m0,hm0,T⟩:=gW.1 V;obtain⟨M,⟨hM1,hM2⟩,_,hM3⟩:=E8 (P:=λ m=>m<=n/\(cyR (rsL l f l.length) n (m+1)).2.2<0) m0 ⟨by have:=yD.1 hm0;omega,Bb T⟩;clear V T hm0;generalize rsL l f l.length=L at*;refine kM Tryz.func136 ?_;intro B X w0;refine fc ?_;refine ac kP aa aa ?_;refine aq (λ(m:Nat)=>m<=M) (λ m=>[(0, .d (.sl (L.map rsD))),(1, .int n),(5, .ref 14 1 0 n n),(6, .ref 16 1 0 n n),(7, .int (cyR L n m).2.2),(8, .int m)]) (λ m=>[(14, .row 1 ((cyR L n m).1.map D.int)),(16, .row 1 ((cyR L n m).2.1.map D.int))]) (λ m=>M-m) 0 ?_ ?_ ?_
  ·exact uF _
  ·exact kN (ai @cyR.eq_1 @yT.{0,0}) []
  ·intro m hm;refine ac kP aa aa ?_;refine aq (λ(i:Nat)=>i<=L.length) (λ i=>[(0, .d (.sl (L.map rsD))),(1, .int n),(5, .ref 14 1 0 n n),(6, .ref 16 1 0 n n),(7, .int (cyI L (cyR L n m) i).2.2),(8, .int m),(9, .int i)]) (λ i=>[(14, .row 1 ((cyI L (cyR L n m) i).1.map D.int)),(16, .row 1 ((cyI L (cyR L n m) i).2.1.map D.int))]) (λ i=>L.length-i) 0 ?_ ?_ ?_
   ·exact uF _
   ·exact kN (ae @cyI.eq_1) []
   ·intro i C;obtain⟨K,J,I⟩:=E m i xA C;rcases uD i L.length with O|hig
    ·obtain⟨s,U⟩:=ak O;obtain⟨g1,g2,g3,g4,g5,g6,g7⟩:=R i s U;have Z:=DE (σ:=cyR L n m) U;generalize cyI L (cyR L n m) i=σ at*;obtain⟨d,la,at_⟩:=σ;obtain⟨sb,sk,u,w,ga⟩:=s;dsimp only at*;obtain⟨u,rfl⟩:∃x:Nat,u=x:=⟨u.toNat,xA⟩;obtain⟨w,rfl⟩:∃x:Nat,w=x:=⟨w.toNat,xA⟩;have G:=aK (r:=d) (i:=u) xA;have F:=aK (r:=d) (i:=w) xA;have H:=aK (r:=la) (i:=w) xA;have bu:=I u xA;have bw:=I w xA;rw[uK]at Z;by_cases c:at0 d w<at0 d u+ga
     ·rw[if_pos c]at Z;refine kw kP (bV U G F H K J c) aa ?_
      repeat' first|exact True.intro|refine Bn.mk ?_ ?_|intro S
      refine⟨i+1,?_,eL [] _ _ (by refine⟨?_,?_⟩<;>(repeat' first|exact fmn|refine fmc ⟨(by first|rfl|(simp(disch:=omega) only[go_sem,simprocAttr,inL,Z,yW];first|done|omega|(congr 1;done))),?_⟩);done),?_⟩
      ·omega
      ·omega
     ·rw[if_neg c]at Z;refine ac kP (bV U G F H K J c) aa ?_;refine⟨i+1,?_,kN (ae Z) [],?_⟩
      ·omega
      ·omega
    ·have Q:i=L.length:=xA;subst Q;have eR:cyI L (cyR L n m) L.length=cyR L n (m+1):=rfl;rw[eR];by_cases N:(cyR L n (m+1)).2.2<0
     ·refine ac kP (ae N) aa ?_;refine aV ?_;refine⟨_,cI.1 (kN (L:=[(4, .nilS)]) (M:=[(2000, .dead)]) aa []),?_⟩;exact⟨rfl,fmc ⟨rfl,fmn⟩⟩
     ·have hml:m<M:=by
       rcases uD m M with h|h
       ·exact h
       ·have:m=M:=xA;subst this;exact absurd hM2 N
      refine ac kP (ae N) aa ?_;refine⟨m+1,?_,kN aa [],?_⟩
      ·omega
      ·omega
def wtN (l:List Bd):Nat->List Int
 |0=>zeros l
 |k+1=>(wtN l k).set k ((l[k]?.getD (0,0,0,0)).2.2.2)
theorem u6 (l:List Bd):∀k,(wtN l k).length=l.length:=by
 intro k
 induction k with
 |zero=>simp[wtN,zeros]
 |succ k Z=>rw[wtN,yJ,Z]
theorem I2 (l:List Bd):∀k,k<=l.length->∀j:Nat,at0 (wtN l k) j=if j<k then(l[j]?.getD (0,0,0,0)).2.2.2 else 0:=by
 intro k
 induction k with
 |zero=>intro _ j;rw[wtN,at0_zeros,if_neg xA]
 |succ k Z=>
  intro h j;rw[wtN,iY _ _ _ _ xA];by_cases c:j=k
  ·subst c;rw[if_pos ⟨rfl,by rw[u6];omega⟩,if_pos xA]
  ·rw[if_neg xA,Z xA];by_cases d:j<k
   ·rw[if_pos d,if_pos xA]
   ·rw[if_neg d,if_neg xA]
def g9 (L:List RS)(n:Nat)(F:List Int):Int:=d9 (aB L (bU L n)) F 1099511627776 (cyC L n) (cyK L n)
def jl (L:List RS)(n:Nat)(F:List Int):List Int:=cG (aB L (bU L n)) F (g9 L n F) (cyC L n) (cyK L n)
def mL (l:List Bd)(n:Nat):Nat->List Int->List Int
 |0,F=>F
 |k+1,F=>if lH (rsL l F l.length) n then F else mL l n k (jl (rsL l F l.length) n F)
structure FOk (n:Nat)(l:List Bd)(F:List Int):Prop where
 len:F.length=l.length
 pos:∀k:Nat,0<=at0 F k
 dv:∀v:Nat,v<n->d8 l F v=0
section
variable {n:Nat}{l:List Bd}{F:List Int}
theorem Uc (U:BdsOk n l):FOk n l (wtN l l.length):=by
 have T:∀(k:Nat) b,l[k]? =some b->at0 (wtN l l.length) k=b.2.2.2:=λ k b Y=>by
  rw[I2 l l.length (uI _),if_pos (uB.1 Y).1,Y];rfl
 refine⟨u6 l _,λ k=>?_,λ v _=>?_⟩
 ·rw[I2 l l.length (uI _)];split
  ·rename_i h;obtain⟨b,Z⟩:=ak h;have:=U k b Z;rw[Z];dsimp only[Option.getD_some];omega
  ·exact qR _
 ·have:∀k,k<l.length->eA l (wtN l l.length) v k=0:=λ k Y=>by
   obtain⟨b,Z⟩:=ak Y;have V:=T k b Z;have X:=aK (r:=wtN l l.length) (i:=k) (by rw[u6];exact Y);rw[V]at X;simp[eA,Z,X]
  rw[d8,iK (h:=λ _=>0) this,ks]
theorem FOk.push (E:BdsOk n l)(h:FOk n l F)(K:lH (rsL l F l.length) n=false):FOk n l (jl (rsL l F l.length) n F)/\fS l F+1<=fS l (jl (rsL l F l.length) n F)/\1<=g9 (rsL l F l.length) n F/\g9 (rsL l F l.length) n F<=1099511627776:=by
 obtain⟨_,_,G,_⟩:=vY E K;obtain⟨p1,p2,p3,p4,p5,Z,M⟩:=G;have T:∀(j:Nat) s,(rsL l F l.length)[j]? =some s->_:=λ j s h=>ul (uA h)
 have R:∀q,q<cyK (rsL l F l.length) n->∃(k:Nat) (b:Bd),l[k]? =some b/\(aR (aB (rsL l F l.length) (bU (rsL l F l.length) n)) (cyC (rsL l F l.length) n) q).2.2.1=k/\
   (((aR (aB (rsL l F l.length) (bU (rsL l F l.length) n)) (cyC (rsL l F l.length) n) q).2.2.2=false/\(aR (aB (rsL l F l.length) (bU (rsL l F l.length) n)) (cyC (rsL l F l.length) n) q).2.1=b.2.2.1)\/
    ((aR (aB (rsL l F l.length) (bU (rsL l F l.length) n)) (cyC (rsL l F l.length) n) q).2.2.2=true/\0<at0 F k/\(aR (aB (rsL l F l.length) (bU (rsL l F l.length) n)) (cyC (rsL l F l.length) n) q).2.1=-b.2.2.1)):=λ q J=>by
  obtain⟨_,_,j,s,_,t2,_,Y⟩:=p5 q J;obtain⟨k,b,Q,rfl|⟨A,rfl⟩⟩:=T j s t2
  ·exact⟨k,b,Q,by rw[Y], .inl ⟨by rw[Y],by rw[Y]⟩⟩
  ·exact⟨k,b,Q,by rw[Y], .inr ⟨by rw[Y],A,by rw[Y]⟩⟩
 have L:0<g9 (rsL l F l.length) n F:=FI xC _ λ j U V=>by
  obtain⟨k,b,_,e,⟨X,_⟩|⟨_,X,_⟩⟩:=R j U
  ·rw[X]at V;cases V
  ·rw[e];exact X
 have S:=xi (aB (rsL l F l.length) (bU (rsL l F l.length) n)) F 1099511627776 (cyC (rsL l F l.length) n) (cyK (rsL l F l.length) n);have N:=KR (m:=g9 (rsL l F l.length) n F) h.len Z (λ q J=>by
  obtain⟨k,b,Q,e,X⟩:=R q J;exact⟨k,b,Q,e,X.imp id λ h=>⟨h.1,h.2.2⟩⟩) (cyK (rsL l F l.length) n) (uI _)
 have H:=yx (m:=g9 (rsL l F l.length) n F) Z h.len (Dr L) _ (uI _);have I:=λ v:Int=>HF (m:=g9 (rsL l F l.length) n F) Z h.len v _ (uI _)
 refine⟨⟨by rw[jl,l9];exact h.len,λ k=>?_,λ v z=>?_⟩,?_,xA,S.1⟩
 ·obtain⟨s1,s2⟩:=H k;by_cases c:∃j,j<cyK (rsL l F l.length) n/\((aR (aB (rsL l F l.length) (bU (rsL l F l.length) n)) (cyC (rsL l F l.length) n) j).2.2.2=true/\(aR (aB (rsL l F l.length) (bU (rsL l F l.length) n)) (cyC (rsL l F l.length) n) j).2.2.1=k)
  ·obtain⟨j,U,O,C⟩:=c;have:=S.2 j U O;rw[C]at this;rw[jl];have:g9 (rsL l F l.length) n F<=at0 F k:=this;omega
  ·have:=s1 λ j U B=>c ⟨j,U,B⟩
   have:=h.pos k;rw[jl];omega
 ·have:=I v;rw[jl,this,p3,h.dv v z];omega
 ·rw[jl,N];have:g9 (rsL l F l.length) n F*1<=g9 (rsL l F l.length) n F*aT (λ q=>(aR (aB (rsL l F l.length) (bU (rsL l F l.length) n)) (cyC (rsL l F l.length) n) q).2.1) (cyK (rsL l F l.length) n):=jU M xA;omega
theorem FOk.best (K:nOk ((n:Int),l)=true)(h:FOk n l F)(M:∀k:Nat,at0 F k<=1099511627776)(U:lH (rsL l F l.length) n=true):∃r,jf ((n:Int),l) F=(r,true)/\Best n l r F:=by
 obtain⟨Y,J,C⟩:=bdsOk_of K;obtain⟨d,R⟩:=Lb Y U;have I:PotB l F (λ v=>at0 d v):=λ k b Q=>by
  have L:=Y k b Q;obtain⟨H,G⟩:=Rj (f:=F) Q;have T:=R _ H;dsimp only at T
  (try dsimp only)
  rw[show((b.1.toNat:Nat):Int)=b.1 by omega,show((b.2.1.toNat:Nat):Int)=b.2.1 by omega];refine⟨T,λ V=>?_⟩;have N:=R _ (G V);dsimp only at N;omega
 obtain⟨W,E,Z,X⟩:=w3 Y J ((lW Y).2 I);have S:Best n l (jh W) F:=⟨h.len,by simp[jh,Z],λ k=>⟨h.pos k,M k⟩,h.dv,λ v O=>by rw[BW Z O];exact X v O⟩;exact⟨jh W,Kc Y S,S⟩
theorem vJ (T:BdsOk n l)(h:FOk n l F){x z:List Int}(Q:PotB l (zeros l) (λ v=>at0 x v))(O:∀b,b∈l->1<=gap z b):fS l F<=costB l x/\∀k:Nat,at0 F k<=costB l z:=by
 refine⟨Dx T h.len h.pos h.dv Q,λ k=>?_⟩;have X:∀k,k<l.length->at0 F k<=(match l[k]? with|some b=>at0 F k*gap z b|none=>0):=λ k Y=>by
  obtain⟨b,Z⟩:=ak Y;have:=O b (uA Z);have S:=h.pos k;rw[Z];dsimp only;have:at0 F k*1<=at0 F k*gap z b:=jU this S;omega
 rw[tj T h.len h.dv z];rcases uD k l.length with Y|Y
 ·have:=oW (g:=λ j=>if k=j then at0 F k else 0) (h:=λ k=>match l[k]? with|some b=>at0 F k*gap z b|none=>0) (n:=l.length) (λ j V=>by
   have R:=X j V;have N:=h.pos j
   (try dsimp only)
   split
   ·rename_i e;subst e;exact R
   ·omega)
  rw[oV,if_pos Y]at this;exact this
 ·have U:=oW (g:=λ _=>0) (h:=λ k=>match l[k]? with|some b=>at0 F k*gap z b|none=>0) (n:=l.length) (λ j V=>zD (h.pos j) (X j V));rw[ks]at U;rw[at0,uK,uL (by rw[h.len];exact Y)];exact U
end
end Go.Proofs.YtjjbhjnpeenbkaaGreatDoor.Sx
