/- The net of a problem: its potentials, the least ranks; certificates are found. -/
import Derived.Test.YtjjbhjnpeenbkaaGreatDoorSxU
import Derived.Test.YtjjbhjnpeenbkaaGreatDoorSxL
set_option linter.unusedSimpArgs false
set_option linter.unusedVariables false
set_option maxHeartbeats 16000000
namespace Go.Proofs.YtjjbhjnpeenbkaaGreatDoor.Sx
open Go Go.PS Go.Proofs
section partZ
theorem rK {Y:Type}{g:Nat->List Y}{x:Y}:∀{n:Nat},x∈b8 g n↔∃k,k<n/\x∈g k:=by
 intro n
 induction n with
 |zero=>simp[b8]
 |succ n V=>
  simp only[b8,yP,V];constructor
  ·rintro(⟨k,X,h⟩|h)
   ·exact⟨k,xA,h⟩
   ·exact⟨n,xA,h⟩
  ·rintro⟨k,X,h⟩;rcases uD k n with Z|Z
   ·exact .inl ⟨k,Z,h⟩
   ·have:k=n:=xA;subst this;exact .inr h
theorem mem_steps {l:List Bd}{f:List Int}{v:Nat}{s:Stp}:s∈aS l f v↔∃(k:Nat) (b:Bd),l[k]? =some b/\((b.1=v/\s=(b.2.1,b.2.2.1,(k:Int),false))\/(0<at0 f k/\b.2.1=v/\s=(b.1,-b.2.2.1,(k:Int),true))):=by
 rw[aS,kr,rK];constructor
 ·rintro⟨k,V,h⟩;obtain⟨b,Y⟩:=ak V;refine⟨k,b,Y,?_⟩;simp only[oU,Y,yP]at h;rcases h with h|h
  ·split at h
   ·rename_i Z;exact .inl ⟨Z,uX.1 h⟩
   ·simp at h
  ·split at h
   ·rename_i Z;exact .inr ⟨Z.1,Z.2,uX.1 h⟩
   ·simp at h
 ·rintro⟨k,b,Y,h⟩;refine⟨k,(uB.1 Y).1,?_⟩;simp only[oU,Y,yP];rcases h with⟨Z,rfl⟩|⟨Z,X,rfl⟩
  ·left;rw[if_pos Z];simp
  ·right;rw[if_pos ⟨Z,X⟩];simp
def BdsOk (n:Nat)(l:List Bd):Prop:=∀(k:Nat) b,l[k]? =some b->0<=b.1/\b.1<(n:Int)/\0<=b.2.1/\b.2.1<(n:Int)/\b.1≠b.2.1/\-16777216<=b.2.2.1/\b.2.2.1<=16777216/\0<=b.2.2.2/\b.2.2.2<=8000
theorem bdsOk_of {n:Nat}{l:List Bd}(h:nOk ((n:Int),l)=true):BdsOk n l/\n<=2048/\l.length<=4096:=by
 obtain⟨X,V,Z,Y⟩:=pR h;dsimp only at X V Z Y;exact⟨Y,xA,Z⟩
theorem steps_good {n:Nat}{l:List Bd}{f:List Int}(Y:BdsOk n l):fh n (aS l f):=by
 intro v s V;obtain⟨k,b,X,h⟩:=mem_steps.1 V;have:=Y k b X;rcases h with⟨Z,rfl⟩|⟨Z,U,rfl⟩<;>dsimp only<;>omega
def PotB (l:List Bd)(f:List Int)(p:Nat->Int):Prop:=∀(k:Nat) b,l[k]? =some b->p b.1.toNat+b.2.2.1<=p b.2.1.toNat/\(0<at0 f k->p b.2.1.toNat<=p b.1.toNat+b.2.2.1)
theorem lW {n:Nat}{l:List Bd}{f:List Int}{p:Nat->Int}(V:BdsOk n l):Pot (aS l f) p↔PotB l f p:=by
 constructor
 ·intro h k b Z;have X:=V k b Z;refine⟨h b.1.toNat (b.2.1,b.2.2.1,(k:Int),false) (mem_steps.2 ⟨k,b,Z, .inl ⟨xA,rfl⟩⟩),λ S=>?_⟩;have:=h b.2.1.toNat (b.1,-b.2.2.1,(k:Int),true) (mem_steps.2 ⟨k,b,Z, .inr ⟨S,xA,rfl⟩⟩);dsimp only at this;omega
 ·intro h v s R;obtain⟨k,b,Z,Y⟩:=mem_steps.1 R;have X:=V k b Z;obtain⟨U,T⟩:=h k b Z;rcases Y with⟨Y,rfl⟩|⟨Y,Q,rfl⟩
  ·dsimp only;rw[show v=b.1.toNat by omega];exact U
  ·have:=T Y;dsimp only;rw[show v=b.2.1.toNat by omega];omega
abbrev iN (n:Nat):Nat->Prop:=λ v=>(v:Int)∈fB n
theorem mem_allI {n v:Nat}:(v:Int)∈fB n↔v<n:=by
 rw[fB,uR];constructor
 ·rintro⟨u,Z,h⟩;have:=yD.1 Z;omega
 ·intro h;exact⟨v,yD.2 h,rfl⟩
theorem w3 {n:Nat}{l:List Bd}{f:List Int}{p:Nat->Int}(U:BdsOk n l)(T:n<=2048)(S:Pot (aS l f) p):
  ∃W,eP n (aS l f) (fB n)=some W/\W.length=n/\∀v,v<n->Opt (aS l f) (iN n) v (lgW W v):=by
 obtain⟨Y,R⟩:=BJ n;obtain⟨W,X,h,Q,V⟩:=HC S (steps_good U) T Y xA;refine⟨W,X,h.len,λ v Z=>(V v Z ?_).1⟩;have:=(h.starts v (mem_allI.2 Z)).2;rw[Rch];omega
theorem OH {n:Nat}{l:List Bd}{f:List Int}(Z:BdsOk n l){v:Nat}{d:Int}(h:Opt (aS l f) (iN n) v d):0<=d/\d<=16777216*(n:Int):=by
 have Y:∀v:Nat,iN n v->v<n:=λ v V=>mem_allI.1 V
 obtain⟨k,S,X⟩:=opt_short (steps_good Z) Y h;have U:=sG (steps_good Z) X;have T:=h.2 0 0 (.start v (mem_allI.2 (qp (steps_good Z) Y X)));omega
theorem SY {n:Nat}{l:List Bd}{f:List Int}{k:Nat}{s:List Int×Bool}{b:Bd}(Q:BdsOk n l)(S:l[k]? =some b)(I:s.1.length=n):
  (∀v:Nat,at0 s.1 v<=at0 (fL l f k s).1 v)/\at0 s.1 b.1+b.2.2.1<=at0 (fL l f k s).1 b.2.1/\(0<at0 f k->at0 s.1 b.2.1-b.2.2.1<=at0 (fL l f k s).1 b.1)/\
   (∀v:Nat,at0 (fL l f k s).1 v=at0 s.1 v\/((v:Int)=b.2.1/\at0 (fL l f k s).1 v=at0 s.1 b.1+b.2.2.1)\/(0<at0 f k/\(v:Int)=b.1/\at0 (fL l f k s).1 v=at0 s.1 b.2.1-b.2.2.1))/\
   ((fL l f k s).2=false->s.2=false/\(fL l f k s).1=s.1):=by
 obtain⟨O,N,M,L,J,_⟩:=Q k b S;have R:lx f k=decide (0<at0 f k):=by
  rw[lx,at0,uK];cases f[k]? with
  |none=>simp
  |some x=>rfl
 obtain⟨i,Y⟩:∃i:Nat,b.1=i:=⟨b.1.toNat,xA⟩;obtain⟨j,X⟩:∃j:Nat,b.2.1=j:=⟨b.2.1.toNat,xA⟩;have T:fL l f k s=upB b (lx f k) (upA b s):=by simp only[fL,S]
 rw[T];by_cases V:at0 s.1 j<at0 s.1 i+b.2.2.1
 ·rw[II Y X xA xA V,Y,X];have Z:∀v:Nat,at0 (s.1.set j (at0 s.1 i+b.2.2.1)) v=if v=j then at0 s.1 i+b.2.2.1 else at0 s.1 v:=λ v=>by
   rw[iY _ _ _ _ xA];by_cases h:v=j
   ·rw[if_pos ⟨xA,xA⟩,if_pos h]
   ·rw[if_neg xA,if_neg h]
  refine⟨λ v=>?_,?_,λ _=>?_,λ v=>?_,λ h=>by cases h⟩
  ·dsimp only;rw[Z];split
   ·rename_i h;subst h;omega
   ·exact qR _
  ·dsimp only;rw[Z,if_pos rfl];exact qR _
  ·dsimp only;rw[Z,if_neg xA];omega
  ·dsimp only;rw[Z];split
   ·rename_i h;right;left;exact⟨xA,rfl⟩
   ·left;rfl
 ·by_cases U:0<at0 f k/\at0 s.1 i<at0 s.1 j-b.2.2.1
  ·rw[IJ Y X V (by rw[R];simp[U.1]) U.2,Y,X];have Z:∀v:Nat,at0 (s.1.set i (at0 s.1 j-b.2.2.1)) v=if v=i then at0 s.1 j-b.2.2.1 else at0 s.1 v:=λ v=>by
    rw[iY _ _ _ _ xA];by_cases h:v=i
    ·rw[if_pos ⟨xA,xA⟩,if_pos h]
    ·rw[if_neg xA,if_neg h]
   refine⟨λ v=>?_,?_,λ _=>?_,λ v=>?_,λ h=>by cases h⟩
   ·dsimp only;rw[Z];split
    ·rename_i h;subst h;omega
    ·exact qR _
   ·dsimp only;rw[Z,if_neg xA];omega
   ·dsimp only;rw[Z,if_pos rfl];exact qR _
   ·dsimp only;rw[Z];split
    ·rename_i h;right;right;exact⟨U.1,xA,rfl⟩
    ·left;rfl
  ·rw[zv Y X V (by rw[R,qJ];omega),Y,X];exact⟨λ v=>qR _,xA,λ h=>xA,λ v=> .inl rfl,λ h=>⟨h,rfl⟩⟩
theorem uj {n:Nat}{l:List Bd}{f:List Int}{r:List Int}(N:BdsOk n l)(B:r.length=n):
  ∀i,i<=l.length->(∀v:Nat,at0 r v<=at0 (ce l f r i).1 v)/\(∀(k:Nat) b,k<i->l[k]? =some b->at0 r b.1+b.2.2.1<=at0 (ce l f r i).1 b.2.1/\(0<at0 f k->at0 r b.2.1-b.2.2.1<=at0 (ce l f r i).1 b.1))/\
   ((∀v:Nat,v<n->∃j,Wk (aS l f) (iN n) j v (at0 r v))->∀v:Nat,v<n->∃j,Wk (aS l f) (iN n) j v (at0 (ce l f r i).1 v))/\
   ((ce l f r i).2=false->(ce l f r i).1=r):=by
 intro i
 induction i with
 |zero=>intro _;exact⟨λ v=>qR _,λ k b C=>xA,λ h=>h,λ _=>rfl⟩
 |succ i ih=>
  intro hi;obtain⟨L,q,i3,i4⟩:=ih xA;obtain⟨b,Y⟩:=ak (show i<l.length by omega);have S:(ce l f r i).1.length=n:=by rw[ui,B]
  obtain⟨J,s2,s3,s4,s5⟩:=SY (f:=f) (s:=ce l f r i) N Y S;have E:=N i b Y;have cast:∀x:Int,0<=x->at0 r x<=at0 (ce l f r i).1 x:=λ x z=>by
   have:=L x.toNat
   rwa [show((x.toNat:Nat):Int)=x by omega]at this
  have Z:∀x:Int,0<=x->at0 (ce l f r i).1 x<=at0 (fL l f i (ce l f r i)).1 x:=λ x z=>by
   have:=J x.toNat
   rwa [show((x.toNat:Nat):Int)=x by omega]at this
  rw[ce];refine⟨λ v=>zD (L v) (J v),λ k R C V=>?_,λ h v A=>?_,λ h=>?_⟩
  ·have F:=N k R V;rcases uD k i with U|U
   ·obtain⟨M,Q⟩:=q k R U V;have I:=Z R.2.1 xA;have H:=Z R.1 xA;exact⟨xA,λ h=>by have:=Q h;omega⟩
   ·have:k=i:=xA;subst this;rw[Y]at V;cases V;have I:=cast b.2.1 xA;have H:=cast b.1 xA;exact⟨xA,λ h=>by have:=s3 h;omega⟩
  ·have X:=i3 h;rcases s4 v with U|⟨U,O⟩|⟨G,U,O⟩
   ·rw[U];exact X v A
   ·obtain⟨j,T⟩:=X b.1.toNat xA;rw[show((b.1.toNat:Nat):Int)=b.1 by omega]at T;have:=Wk.step j b.1.toNat _ (b.2.1,b.2.2.1,(i:Int),false) T (mem_steps.2 ⟨i,b,Y, .inl ⟨xA,rfl⟩⟩);dsimp only at this;rw[show b.2.1.toNat=v by omega]at this;rw[O];exact⟨_,this⟩
   ·obtain⟨j,T⟩:=X b.2.1.toNat xA;rw[show((b.2.1.toNat:Nat):Int)=b.2.1 by omega]at T;have:=Wk.step j b.2.1.toNat _ (b.1,-b.2.2.1,(i:Int),true) T (mem_steps.2 ⟨i,b,Y, .inr ⟨G,xA,rfl⟩⟩);dsimp only at this;rw[show b.1.toNat=v by omega]at this;rw[O,Dj];exact⟨_,this⟩
  ·obtain⟨M,Q⟩:=s5 h;rw[Q];exact i4 M
theorem Q1 {n:Nat}{l:List Bd}{f:List Int}{r:List Int}(V:BdsOk n l)(R:r.length=n)(h:(ce l f r l.length).2=false):PotB l f (λ v=>at0 r v):=by
 obtain⟨_,U,_,T⟩:=uj (f:=f) V R l.length (uI _);intro k b Z;have S:=V k b Z;obtain⟨Y,X⟩:=U k b (uB.1 Z).1 Z;rw[T h]at Y X;dsimp only;rw[show((b.1.toNat:Nat):Int)=b.1 by omega,show((b.2.1.toNat:Nat):Int)=b.2.1 by omega];exact⟨Y,λ h=>by have:=X h;omega⟩
theorem Q0 {n:Nat}{l:List Bd}{f:List Int}{r:List Int}(T:BdsOk n l)(_hr:r.length=n)(h:PotB l f (λ v=>at0 r v)):∀i,i<=l.length->ce l f r i=(r,false):=by
 intro i
 induction i with
 |zero=>intro _;rfl
 |succ i Q=>
  intro N;obtain⟨b,Z⟩:=ak (show i<l.length by omega);have S:=T i b Z;obtain⟨X,Y⟩:=h i b Z;dsimp only at X Y;rw[show((b.1.toNat:Nat):Int)=b.1 by omega,show((b.2.1.toNat:Nat):Int)=b.2.1 by omega]at X Y;rw[ce,Q xA,fL,Z];dsimp only;have R:lx f i=decide (0<at0 f i):=by
   rw[lx,at0,uK];cases f[i]? with
   |none=>simp
   |some x=>rfl
  have V:upA b (r,false)=(r,false):=by rw[upA,if_neg (by dsimp only;omega)]
  rw[V,upB,R,if_neg];simp only[uN,uG];rintro⟨U,O⟩;have:=Y U;omega
theorem S7 {l:List Bd}{f:List Int}{n:Nat}:∀{m k:Nat},fz l f n m=some k->(ce l f (cm l f n k) l.length).2=false:=by
 intro m
 induction m with
 |zero=>intro k h;cases h
 |succ m X=>
  intro k h;rw[fz]at h;cases Z:fz l f n m with
  |some i=>rw[Z]at h;cases h;exact X Z
  |none=>
   rw[Z]at h;dsimp only at h;split at h
   ·cases h
   ·rename_i Y;cases h;simpa using Y
theorem S5 {l:List Bd}{f:List Int}{n:Nat}:∀{m:Nat},fz l f n m=none->∀k,k<m->(ce l f (cm l f n k) l.length).2=true:=by
 intro m
 induction m with
 |zero=>intro _ k V;omega
 |succ m U=>
  intro h k V;rw[fz]at h;cases Z:fz l f n m with
  |some i=>rw[Z]at h;cases h
  |none=>
   rw[Z]at h;dsimp only at h;rcases uD k m with Y|Y
   ·exact U Z k Y
   ·have:k=m:=xA;subst this;split at h
    ·rename_i X;exact X
    ·cases h
theorem E9 {n:Nat}{l:List Bd}{f:List Int}{p:Nat->Int}(T:BdsOk n l)(hp:Pot (aS l f) p):
  ∃r,jf ((n:Int),l) f=(r,true)/\r.length=n/\∀v,v<n->Opt (aS l f) (iN n) v (at0 r v):=by
 have q:=steps_good (f:=f) T;have B:∀v:Nat,iN n v->v<n:=λ v X=>mem_allI.1 X
 have Z:∀k v,v<n->∃j,Wk (aS l f) (iN n) j v (at0 (cm l f n k) v):=by
  intro k
  induction k with
  |zero=>
   intro v X;have:at0 (cm l f n 0) v=0:=by simp only[at0,cm,gA];split<;>rfl
   rw[this];exact⟨0, .start v (mem_allI.2 X)⟩
  |succ k M=>exact(uj (f:=f) T (ng l f n k) l.length (uI _)).2.2.1 M
 have V:∀k j v d,j<=k->Wk (aS l f) (iN n) j v d->d<=at0 (cm l f n k) v:=by
  intro k
  induction k with
  |zero=>
   intro j v d hj Y;have:j=0:=xA;subst this;cases Y with
   |start _ h=>simp only[at0,cm,gA];split<;>exact qR _
  |succ k M=>
   intro j v d hj Y;obtain⟨m1,m2,_,_⟩:=uj (f:=f) T (ng l f n k) l.length (uI _);rcases uD k j with L|L
   ·have:j=k+1:=xA;subst this;cases Y with
    |step _ u d0 s hu U=>
     have C:=M k u d0 (uI _) hu;obtain⟨i,b,H,J⟩:=mem_steps.1 U;have hbb:=T i b H;obtain⟨e1,e2⟩:=m2 i b (uB.1 H).1 H;rw[cm];rcases J with⟨J,rfl⟩|⟨J,h3,rfl⟩
     ·dsimp only;rw[<-J]at C;rw[show((b.2.1.toNat:Nat):Int)=b.2.1 by omega];omega
     ·dsimp only;rw[<-h3]at C;have:=e2 J;rw[show((b.1.toNat:Nat):Int)=b.1 by omega];omega
   ·have:=M j v d L Y;exact zD this (m1 v)
 have O:∃Q:Int,∀v,iN n v->Q<=p v:=by
  have:∀m:Nat,∃Q:Int,∀v:Nat,v<m->Q<=p v:=by
   intro m
   induction m with
   |zero=>exact⟨0,λ v X=>xA⟩
   |succ m M=>
    obtain⟨Q,h⟩:=M;refine⟨min Q (p m),λ v X=>?_⟩;rcases uD v m with L|L
    ·have:=h v L;omega
    ·have:v=m:=xA;subst this;omega
  obtain⟨Q,h⟩:=this n;exact⟨Q,λ v X=>h v (B v X)⟩
 obtain⟨Q,O⟩:=O
 have S:fz l f n (n+2)≠none:=by
  intro N;have A:=S5 N n xA;have R:∀v,v<n->Opt (aS l f) (iN n) v (at0 (cm l f n n) v):=λ v X=>by
   obtain⟨j,Y⟩:=Z n v X;obtain⟨d,G⟩:=xG hp O Y;obtain⟨i,H,E⟩:=opt_short q B G;have L:=V n i v d xA E;have J:=G.2 _ _ Y;rw[show at0 (cm l f n n) v=d by omega];exact G
  have I:PotB l f (λ v=>at0 (cm l f n n) v):=(lW T).1 λ v s U=>by
   have X:=q v s U;obtain⟨⟨j,Y⟩,_⟩:=R v X.1;exact(R s.1.toNat xA).2 _ _ (.step j v _ s Y U)
  rw[Q0 T (ng l f n n) I l.length (uI _)]at A;cases A
 cases U:fz l f n (n+2)with
 |none=>exact absurd U S
 |some k=>
  refine⟨cm l f n (k+1),by rw[jf];simp only[uK];rw[U],ng _ _ _ _,λ v X=>?_⟩;have z:=S7 U;have F:=(lW T).2 (Q1 T (ng l f n k) z);have h4:=(uj (f:=f) T (ng l f n k) l.length (uI _)).2.2.2 z;rw[cm,h4];refine⟨Z k v X,λ j d Y=>?_⟩;have:∀j v d,Wk (aS l f) (iN n) j v d->d<=at0 (cm l f n k) v:=by
   intro j v d Y
   induction Y with
   |start v h=>exact V k 0 v 0 xA (.start v h)
   |step j v d s Y U M=>have:=F v s U;dsimp only at this;omega
  exact this j v d Y
end partZ
section partZa
theorem iK {g h:Nat->Int}:∀{n:Nat},(∀v,v<n->g v=h v)->aT g n=aT h n
 |0,_=>rfl
 |n+1,e=>by rw[eT,eT,e n xA,iK λ v Z=>e v xA]
theorem n6 (g h:Nat->Int):∀n,aT (λ v=>g v+h v) n=aT g n+aT h n
 |0=>rfl
 |n+1=>by rw[eT,eT,eT,n6 g h n];omega
theorem sy (g:Nat->Int):∀n,aT (λ v=>-(g v)) n=-(aT g n)
 |0=>rfl
 |n+1=>by rw[eT,eT,sy g n];omega
theorem ks :∀n,aT (λ _=>0) n=0
 |0=>rfl
 |n+1=>by rw[eT,ks n];rfl
theorem oV (i:Nat)(x:Int):∀n,aT (λ v=>if i=v then x else 0) n=if i<n then x else 0
 |0=>by simp[aT]
 |n+1=>by
  rw[eT,oV i x n];by_cases h:i=n
  ·rw[if_neg xA,if_pos h,if_pos xA];omega
  ·rw[if_neg h];by_cases Z:i<n
   ·rw[if_pos Z,if_pos xA];omega
   ·rw[if_neg Z,if_neg xA];omega
theorem oW {g h:Nat->Int}:∀{n:Nat},(∀v,v<n->g v<=h v)->aT g n<=aT h n
 |0,_=>qR _
 |n+1,e=>by
  rw[eT,eT];have:=oW (n:=n) λ v Z=>e v xA
  have:=e n xA;omega
theorem sx {g h:Nat->Int}{i:Nat}:∀{n:Nat},(∀v,v<n->g v<=h v)->i<n->g i<h i->aT g n<aT h n
 |0,_,Y,_=>xA
 |n+1,e,Y,X=>by
  rw[eT,eT];rcases uD i n with Z|Z
  ·have:=sx (n:=n) (λ v V=>e v xA) Z X;have:=e n xA;omega
  ·have:i=n:=xA;subst this;have:=oW (n:=i) λ v V=>e v xA
   omega
theorem zh {g h:Nat->Int}{n i:Nat}{x:Int}(Z:i<n)(e:∀v,v<n->h v=g v+if i=v then x else 0):aT h n=aT g n+x:=by
 rw[iK e,n6,oV,if_pos Z]
abbrev d8 (l:List Bd)(f:List Int)(v:Int):Int:=aT (eA l f v) l.length
def ou (l:List Bd)(f:List Int)(R:Nat->Bool)(k:Nat):Int:=match l[k]? with|some b=>(if R b.2.1.toNat then at0 f k-b.2.2.2 else 0)-(if R b.1.toNat then at0 f k-b.2.2.2 else 0)|none=>0
theorem HJ {n:Nat}{l:List Bd}{f:List Int}(S:BdsOk n l)(hfl:f.length=l.length)(R:Nat->Bool):∀m,m<=l.length->
  aT (λ v=>if R v then aT (eA l f v) m else 0) n=aT (ou l f R) m:=by
 intro m
 induction m with
 |zero=>intro _;simp only[aT];rw[iK (h:=λ _=>0) (λ v _=>by split<;>rfl),ks]
 |succ m O=>
  intro N;obtain⟨b,Z⟩:=ak (show m<l.length by omega);obtain⟨x,U⟩:=ak (show m<f.length by omega);have Q:=S m b Z;have V:at0 f m=x:=by rw[at0,uK,U];rfl
  rw[eT,<-O xA,ou,Z];dsimp only;have e:∀v,v<n->(if R v then aT (eA l f v) (m+1)else 0)=(if R v then aT (eA l f v) m else 0)+((if b.2.1.toNat=v then(if R b.2.1.toNat then x-b.2.2.2 else 0)else 0)+-(if b.1.toNat=v then(if R b.1.toNat then x-b.2.2.2 else 0)else 0)):=by
   intro v M;have T:eA l f v m=(if b.2.1=(v:Int)then x-b.2.2.2 else 0)-(if b.1=(v:Int)then x-b.2.2.2 else 0):=by simp[eA,Z,U]
   rw[eT,T];by_cases X:b.2.1.toNat=v
   ·have Y:¬b.1.toNat=v:=xA;rw[if_pos X,if_neg Y,if_pos (show b.2.1=(v:Int) by omega),if_neg (show¬b.1=(v:Int) by omega),X];split<;>omega
   ·rw[if_neg X,if_neg (show¬b.2.1=(v:Int) by omega)];by_cases Y:b.1.toNat=v
    ·rw[if_pos Y,if_pos (show b.1=(v:Int) by omega),Y];split<;>omega
    ·rw[if_neg Y,if_neg (show¬b.1=(v:Int) by omega)];split<;>omega
  rw[iK e,n6,n6,sy,oV,oV,if_pos (show b.2.1.toNat<n by omega),if_pos (show b.1.toNat<n by omega),V];omega
theorem Lm {l:List Bd}{f:List Int}{i:Nat}{b:Bd}{x v:Int}(hfl:f.length=l.length)(Y:l[i]? =some b):
  d8 l (f.set i (at0 f i+x)) v=d8 l f v+((if b.2.1=v then x else 0)-(if b.1=v then x else 0)):=by
 have X:=(uB.1 Y).1;obtain⟨y,U⟩:=ak (show i<f.length by omega);have V:at0 f i=y:=by rw[at0,uK,U];rfl
 refine zh (i:=i) X λ k S=>?_
 obtain⟨c,hc⟩:=ak S;obtain⟨z,T⟩:=ak (show k<f.length by omega);by_cases h:i=k
 ·subst h;rw[Y]at hc;cases hc;have Z:(f.set i (at0 f i+x))[i]? =some (y+x):=by rw[jC xA,V]
  simp only[eA,Y,U,Z,if_true];split<;>split<;>omega
 ·have Z:(f.set i (at0 f i+x))[k]? =some z:=by rw[jT h,T]
  simp only[eA,hc,T,Z];rw[if_neg h,jM]
theorem Pd (W:List Way)(Z:List Int):∀k,(bF W Z k<0->∀u,u<k->¬(0<at0 Z u/\-576460752303423488<lgW W u))/\(0<=bF W Z k->0<at0 Z (bF W Z k)/\-576460752303423488<(wAt W (bF W Z k)).1):=by
 intro k
 induction k with
 |zero=>exact⟨λ _ u U=>xA,λ h=>by simp[bF]at h⟩
 |succ k V=>
  rw[bF];split
  ·rename_i h;exact⟨λ h=>xA,λ _=>⟨h.1,h.2.1⟩⟩
  ·rename_i h;refine⟨λ X u U hc=>?_,V.2⟩;rcases uD u k with Y|Y
   ·exact V.1 X u Y hc
   ·have:u=k:=xA;subst this;exact h ⟨hc.1,hc.2, .inl X⟩
theorem rM {Z:List Int}{v:Nat}:∀{n:Nat},(v:Int)∈dP Z n↔v<n/\at0 Z v<0:=by
 intro n;rw[dP,rK];constructor
 ·rintro⟨k,V,h⟩;rw[nz]at h;split at h
  ·rename_i U;have:=uX.1 h;have:v=k:=xA;subst this;exact⟨V,U⟩
  ·simp at h
 ·rintro⟨Y,X⟩;exact⟨v,Y,by rw[nz,if_pos X];simp⟩
theorem Ef {q:Nat->Bool}{k m:Nat}(Y:k<m)(h:∀j,j<k->q j=false)(Z:q k=true):dK q m=some k:=by
 refine Ee Y ?_ Z;have:∀i,i<=k->dK q i=none:=by
  intro i
  induction i with
  |zero=>intro _;rfl
  |succ i X=>intro V;exact Eg (X xA) (h i xA)
 exact this k (uI _)
theorem xi (W:List Way)(f:List Int)(m0 v:Int):∀k,d9 W f m0 v k<=m0/\∀j,j<k->(aR W v j).2.2.2=true->d9 W f m0 v k<=at0 f (aR W v j).2.2.1:=by
 intro k
 induction k with
 |zero=>exact⟨qR _,λ j Y=>xA⟩
 |succ k X=>
  rw[tL];refine⟨?_,λ j Y Z=>?_⟩
  ·split<;>omega
  ·rcases uD j k with h|h
   ·have:=X.2 j h Z;split<;>omega
   ·have:j=k:=xA;subst this;rw[if_pos Z];omega
theorem FI {W:List Way}{f:List Int}{m0 v:Int}(Z:0<m0):∀k,(∀j,j<k->(aR W v j).2.2.2=true->0<at0 f (aR W v j).2.2.1)->0<d9 W f m0 v k:=by
 intro k
 induction k with
 |zero=>intro _;exact Z
 |succ k X=>
  intro h;rw[tL];have:=X λ j V=>h j xA
  split
  ·rename_i Y;have:=h k xA Y;omega
  ·exact this
section sent
variable {n K:Nat}{l:List Bd}{f:List Int}{W:List Way}{t m:Int}
structure ChainOk (n:Nat)(l:List Bd)(f:List Int)(W:List Way)(t:Int)(K:Nat):Prop where
 step:∀j,j<K->∃(k:Nat) (b:Bd),l[k]? =some b/\(aR W t j).2.2.1=k/\(((aR W t j).2.2.2=false/\b.1=az W t (j+1)/\b.2.1=az W t j)\/((aR W t j).2.2.2=true/\0<at0 f k/\b.2.1=az W t (j+1)/\b.1=az W t j))
 inj:∀i j,i<j->j<K->az W t i≠az W t j
variable (hc:ChainOk n l f W t K)(hfl:f.length=l.length)
include hc hfl
theorem HG {k:Nat}(V:k<K)(b:Nat):at0 (cG W f m t (k+1)) b=at0 (cG W f m t k) b+(if(aR W t k).2.2.1=b then(if(aR W t k).2.2.2 then -m else m)else 0):=by
 obtain⟨i,U,X,Y,_⟩:=hc.step k V;have Z:=(uB.1 X).1;rw[sr,Y,uK,iY _ _ _ _ xA];by_cases h:i=b
 ·subst h;rw[if_pos ⟨rfl,by rw[l9,hfl];exact Z⟩,if_pos rfl]
 ·rw[if_neg xA,if_neg xA,jM]
theorem yx (F:0<=m):∀k,k<=K->∀b:Nat,((∀j,j<k->¬((aR W t j).2.2.2=true/\(aR W t j).2.2.1=b))->at0 f b<=at0 (cG W f m t k) b)/\at0 f b-m<=at0 (cG W f m t k) b:=by
 intro k
 induction k with
 |zero=>intro _ b;exact⟨λ _=>qR _,by show at0 f b-m<=at0 f b;omega⟩
 |succ k L=>
  intro G b;obtain⟨O,E⟩:=L xA b;rw[HG hc hfl xA];refine⟨λ h=>?_,?_⟩
  ·have:=O λ j R=>h j xA
   split
   ·rename_i S;split
    ·rename_i Y;exact absurd ⟨Y,S⟩ (h k xA)
    ·omega
   ·omega
  ·split
   ·rename_i S;split
    ·rename_i Y;have:at0 f b<=at0 (cG W f m t k) b:=O λ j R ⟨Z,N⟩=>by
      obtain⟨x,J,M,I,U⟩:=hc.step j xA;obtain⟨y,by_,Q,H,T⟩:=hc.step k xA;have:x=y:=xA;subst this;rw[M]at Q;cases Q;rcases U with⟨X,_⟩|⟨_,_,_,X⟩
      ·rw[X]at Z;cases Z
      ·rcases T with⟨V,_⟩|⟨_,_,_,V⟩
       ·rw[V]at Y;cases Y
       ·exact hc.inj j k R xA (by rw[<-X,<-V])
     omega
    ·omega
   ·omega
theorem HH (F:0<=m):∀k,k<=K->∀b:Nat,((∀j,j<k->¬((aR W t j).2.2.2=false/\(aR W t j).2.2.1=b))->at0 (cG W f m t k) b<=at0 f b)/\at0 (cG W f m t k) b<=at0 f b+m:=by
 intro k
 induction k with
 |zero=>intro _ b;exact⟨λ _=>qR _,by show at0 f b<=at0 f b+m;omega⟩
 |succ k L=>
  intro G b;obtain⟨O,E⟩:=L xA b;rw[HG hc hfl xA];refine⟨λ h=>?_,?_⟩
  ·have:=O λ j R=>h j xA
   split
   ·rename_i S;split
    ·omega
    ·rename_i Z;exact absurd ⟨by simpa using Z,S⟩ (h k xA)
   ·omega
  ·split
   ·rename_i S;split
    ·omega
    ·rename_i Z;have Z:(aR W t k).2.2.2=false:=by simpa using Z
     have:at0 (cG W f m t k) b<=at0 f b:=O λ j R ⟨Y,N⟩=>by
      obtain⟨x,J,M,I,U⟩:=hc.step j xA;obtain⟨y,by_,Q,H,T⟩:=hc.step k xA;have:x=y:=xA;subst this;rw[M]at Q;cases Q;rcases U with⟨_,_,X⟩|⟨X,_⟩
      ·rcases T with⟨_,_,V⟩|⟨V,_⟩
       ·exact hc.inj j k R xA (by rw[<-X,<-V])
       ·rw[V]at Z;cases Z
      ·rw[X]at Y;cases Y
     omega
   ·omega
theorem HF (v:Int):∀k,k<=K->d8 l (cG W f m t k) v=d8 l f v+((if t=v then m else 0)-(if az W t k=v then m else 0)):=by
 intro k
 induction k with
 |zero=>intro _;show d8 l f v=d8 l f v+((if t=v then m else 0)-(if t=v then m else 0));omega
 |succ k T=>
  intro S;obtain⟨i,b,U,V,h⟩:=hc.step k xA;rw[sr,V,uK,Lm (by rw[l9,hfl]) U,T xA];rcases h with⟨Z,Y,X⟩|⟨Z,_,Y,X⟩
  ·rw[show(if(aR W t k).2.2.2=true then -m else m)=m by rw[Z];rfl,Y,X];omega
  ·rw[show(if(aR W t k).2.2.2=true then -m else m)=-m by rw[Z];rfl,Y,X];split<;>split<;>split<;>omega
end sent
end partZa
section partZb
instance rchDec (W:List Way)(v:Nat):Decidable (Rch W v):=inferInstanceAs (Decidable (lgW W v≠-1152921504606846976))
theorem Gv (p:Nat->Int):∀m:Nat,∃lo:Int,∀v:Nat,v<m->lo<=p v:=by
 intro m
 induction m with
 |zero=>exact⟨0,λ v Y=>xA⟩
 |succ m X=>
  obtain⟨lo,h⟩:=X;refine⟨min lo (p m),λ v Y=>?_⟩;rcases uD v m with Z|Z
  ·have:=h v Z;omega
  ·have:v=m:=xA;subst this;omega
theorem Py (p:Nat->Int):∀m:Nat,∃Z:Int,∀v:Nat,v<m->p v<=Z:=by
 intro m;obtain⟨X,h⟩:=Gv (λ v=>-(p v)) m;exact⟨-X,λ v Y=>by have:=h v Y;omega⟩
def mG (Z:List Int)(n:Nat):Int:=aT (λ v=>max 0 (at0 Z v)) n
theorem t7 (Z:List Int)(n:Nat):0<=mG Z n:=by
 have:=oW (g:=λ _=>0) (h:=λ v:Nat=>max 0 (at0 Z v)) (n:=n) λ v _=>xA
 rwa [ks]at this
structure Cert (n:Nat)(l:List Bd)(T:Int)(f nd:List Int):Prop where
 fl:f.length=l.length
 nl:nd.length=n
 pos:∀k:Nat,0<=at0 f k
 pot:∃p,Pot (aS l f) p
 dv:∀v:Nat,v<n->at0 nd v=-(d8 l f v)
 low:∀v:Nat,v<n->-T<=at0 nd v/\at0 nd v<=T
 cap:∀k:Nat,at0 f k+mG nd n<=T
theorem EI {f:List Int}{T:Int}(V:T<=1125899906842624)(h:∀k:Nat,k<f.length->-T<=at0 f k/\at0 f k<=T):inB f=true:=by
 simp only[inB,yF,uG];intro x X;obtain⟨k,Y⟩:=qA X;have Z:=(uB.1 Y).1;have:=h k Z;have e:at0 f k=x:=by rw[at0,uK,Y];rfl
 omega
theorem KK {n:Nat}{l:List Bd}{T:Int}{f Y:List Int}(hb:BdsOk n l)(hn:n<=2048)(hT:T<=1125899906842624)(h:Cert n l T f Y)(hneg:∃s:Nat,s<n/\at0 Y s<0):
  ∃f' nd',tf n l f Y=some (f',nd')/\Cert n l T f' nd'/\mG nd' n<mG Y n:=by
 obtain⟨p,hp⟩:=h.pot;have hg:=steps_good (f:=f) hb;obtain⟨n1,n2⟩:=rQ Y n;obtain⟨W,hW,hI,hO1,hO2⟩:=HC hp hg hn n1 n2;have hS:∀v:Nat,(v:Int)∈dP Y n->v<n:=λ v X=>(rM.1 X).1
 obtain⟨lo,hlo⟩:=Gv p n;have hlo':∀v:Nat,(v:Int)∈dP Y n->lo<=p v:=λ v X=>hlo v (hS v X)
 have hlow:∀v:Nat,v<n->Rch W v->-34359738368<=lgW W v:=by
  intro v X C;obtain⟨k,R,hw⟩:=opt_short hg hS (hO2 v X C).1;have:=sG hg hw;omega
 have hrs:∀v:Nat,v<n->Rch W v->∀s∈aS l f v,Rch W s.1.toNat:=by
  intro v X C s hs;obtain⟨⟨j,hw⟩,_⟩:=(hO2 v X C).1;obtain⟨d,hd⟩:=xG hp hlo' (Wk.step j v _ s hw hs);exact(hO1 _ _ hd).1
 have hstart:∀v:Nat,v<n->at0 Y v<0->Rch W v:=by
  intro v X G;have:=(hI.starts v (rM.2 ⟨X,G⟩)).2;rw[Rch];omega
 have hout:∀(k:Nat) b,l[k]? =some b->Rch W b.1.toNat->Rch W b.2.1.toNat/\lgW W b.1.toNat+b.2.2.1<=lgW W b.2.1.toNat:=by
  intro k b R C;have hbb:=hb k b R;have hm:((b.2.1,b.2.2.1,(k:Int),false):Stp)∈aS l f b.1.toNat:=mem_steps.2 ⟨k,b,R, .inl ⟨xA,rfl⟩⟩;have Z:=hrs b.1.toNat xA C _ hm;have V:=(hO2 b.1.toNat xA C).2 _ hm;dsimp only at Z V;refine⟨Z,?_⟩;rw[lgW,lgW,show((b.2.1.toNat:Nat):Int)=b.2.1 by omega];exact V
 have hinn:∀(k:Nat) b,l[k]? =some b->0<at0 f k->Rch W b.2.1.toNat->Rch W b.1.toNat/\lgW W b.2.1.toNat<=lgW W b.1.toNat+b.2.2.1:=by
  intro k b R hf C;have hbb:=hb k b R;have hm:((b.1,-b.2.2.1,(k:Int),true):Stp)∈aS l f b.2.1.toNat:=mem_steps.2 ⟨k,b,R, .inr ⟨hf,xA,rfl⟩⟩;have Z:=hrs b.2.1.toNat xA C _ hm;have V:=(hO2 b.2.1.toNat xA C).2 _ hm;dsimp only at Z V;refine⟨Z,?_⟩;rw[lgW,show lgW W b.1.toNat=(wAt W b.1).1 by rw[lgW,show((b.1.toNat:Nat):Int)=b.1 by omega]];rw[lgW]at V;omega
 have hneed:∃u:Nat,u<n/\Rch W u/\0<at0 Y u:=by
  refine gH λ E=>?_
  have hle:∀v:Nat,v<n->Rch W v->at0 Y v<=0:=λ v X C=>by
   rcases Bq 0 (at0 Y v)with Z|Z
   ·exact absurd ⟨v,X,C,Z⟩ E
   ·exact Z
  obtain⟨s,hs,hs0⟩:=hneg;have hA:=HJ hb h.fl (λ v=>decide (Rch W v)) l.length (uI _);have Z:aT (ou l f (λ v=>decide (Rch W v))) l.length<=0:=by
   have:=oW (g:=ou l f (λ v=>decide (Rch W v))) (h:=λ _=>0) (n:=l.length) λ k R=>by
    obtain⟨b,L⟩:=ak R;have hbb:=hb k b L;simp only[ou,L,uG];have:=h.pos k;by_cases M:Rch W b.1.toNat
    ·rw[if_pos M,if_pos (hout k b L M).1];omega
    ·rw[if_neg M];by_cases Q:Rch W b.2.1.toNat
     ·rw[if_pos Q];have:¬0<at0 f k:=λ hf=>M (hinn k b L hf Q).1
      omega
     ·rw[if_neg Q];omega
   rwa [ks]at this
  have V:0<aT (λ v=>if decide (Rch W v)=true then aT (eA l f v) l.length else 0) n:=by
   have:=sx (g:=λ _=>0) (h:=λ v:Nat=>if decide (Rch W v)=true then aT (eA l f v) l.length else 0) (i:=s) (n:=n) (λ v X=>by
    simp only[uG];split
    ·rename_i C;have:=h.dv v X;have:=hle v X C;simp only[d8]at*;omega
    ·exact qR _) hs (by
    have C:=hstart s hs hs0;have:=h.dv s hs;rw[if_pos (uZ C)];simp only[d8]at this;omega)
   rwa [ks]at this
  omega
 obtain⟨u,hu,hur,hu0⟩:=hneed;have hpk:=tV W Y n;obtain⟨pk1,pk2⟩:=Pd W Y n;have ht0:0<=bF W Y n:=by
  rcases Bq (bF W Y n) 0 with Z|Z
  ·exact absurd ⟨hu0,by have:=hlow u hu hur;omega⟩ (pk1 Z u hu)
  ·exact Z
 obtain⟨hnt,hlt⟩:=pk2 ht0;obtain⟨t,htt⟩:∃t:Nat,bF W Y n=t:=⟨(bF W Y n).toNat,xA⟩;rw[htt]at hnt hlt;have htn:t<n:=xA;have htr:Rch W t:=by rw[Rch,lgW];omega
 obtain⟨K,hK⟩:=hI.chain t htn htr;have hcp:=vL hp hI htn htr hK.2;have hinj:=S9 hK;have hKn:K+1<=n:=wJ (g:=λ i=>(az W t i).toNat) (λ i hi=>by
  obtain⟨x,G,hxn,_⟩:=hcp i xA;show(az W t i).toNat<n;rw[G];omega) (λ i j hij U J=>by
  obtain⟨x,G,_⟩:=hcp i xA;obtain⟨y,hy,_⟩:=hcp j xA;refine hinj i j hij xA ?_;have J:(az W t i).toNat=(az W t j).toNat:=J;rw[G,hy]at J|-;omega)
 have hstop:y8 W t (n+1)=some K:=Ef xA hK.2 hK.1
 have N:∀j,j<K->∃x v:Nat,az W t j=v/\az W t (j+1)=x/\x<n/\v<n/\Rch W x/\Rch W v/\aR W t j∈aS l f x/\(aR W t j).1=v/\lgW W v<=lgW W x+(aR W t j).2.1:=by
  intro j U;obtain⟨v,X,hvn,hvr,_⟩:=hcp j xA;have B:=hK.2 j U;rw[X]at B;rcases hI.par v hvn hvr with⟨Z,_⟩|⟨x,G,z,Z,V,h3,_,h5⟩
  ·rw[bgW,Z]at B;cases B
  ·exact⟨x,v,X,by rw[im,X];exact Z,G,hvn,z,hvr,by rw[aR,X];exact V,by rw[aR,X];exact h3,by rw[aR,X];exact h5⟩
 have F:ChainOk n l f W t K:=by
  refine⟨λ j U=>?_,λ i j hij U=>hinj i j hij xA⟩;obtain⟨x,v,X,G,hxn,hvn,z,hvr,Z,V,h3⟩:=N j U;obtain⟨k,b,R,S⟩:=mem_steps.1 Z;refine⟨k,b,R,?_⟩;rcases S with⟨S,h5⟩|⟨S,h5,h6⟩
  ·rw[h5]at V|-;exact⟨rfl, .inl ⟨rfl,by rw[G];exact S,by rw[X];exact V⟩⟩
  ·rw[h6]at V|-;exact⟨rfl, .inr ⟨rfl,S,by rw[G];exact h5,by rw[X];exact V⟩⟩
 obtain⟨s,hs,hsn,hsr,_⟩:=hcp K (uI _);have hsneg:at0 Y s<0:=by
  have B:=hK.1;rw[hs]at B;rcases hI.par s hsn hsr with⟨_,V⟩|⟨_,_,_,_,_,_,S,_⟩
  ·exact(rM.1 V).2
  ·rw[B]at S;cases S
 have hst:s≠t:=λ J=>by rw[J]at hsneg;omega
 have hml:=xi W f (at0 Y t) t K;have hmp:0<d9 W f (at0 Y t) t K:=FI hnt K λ j U L=>by
  obtain⟨k,b,_,J,A⟩:=F.step j U;rcases A with⟨Z,_⟩|⟨_,Z,_⟩
  ·rw[Z]at L;cases L
  ·rw[J];exact Z
 have hsm:=yw W f Y t K;rw[hs]at hsm;generalize hmdef:kq W f Y t K=m at hsm;have hm0:0<m:=xA;have hmt:m<=at0 Y t:=xA;have hms:m<=-(at0 Y s):=xA;have hmb:∀j,j<K->(aR W t j).2.2.2=true->m<=at0 f (aR W t j).2.2.1:=λ j U L=>by have:=hml.2 j U L;omega
 have hsl:=yx F h.fl (Dr hm0) K (uI _);have hsu:=HH F h.fl (Dr hm0) K (uI _);have hsd:=λ v:Int=>HF (m:=m) F h.fl v K (uI _)
 have hps:=t7 Y n;have hfin:∀k:Nat,k<f.length->-T<=at0 f k/\at0 f k<=T:=λ k _=>by have:=h.pos k;have:=h.cap k;omega
 have hl0:0<l.length:=by
  rcases qO l.length with h0|h0
  ·have:=h.dv t htn;simp only[d8,h0,aT]at this;omega
  ·exact h0
 have hwo:oY n l.length W=true:=by
  simp only[oY,uN,uG,yF];refine⟨hI.len,λ w hw=>?_⟩;obtain⟨i,hi⟩:=qA hw;have hin:i<n:=by have:=(uB.1 hi).1;rw[hI.len]at this;exact this
  have hwi:wAt W (i:Int)=w:=by rw[wAt,uK,hi];rfl
  rcases hI.sound i hin with Z|⟨Z,_⟩
  ·rw[<-hwi,Z];simp[ik];omega
  ·rcases hI.par i hin Z with⟨V,_⟩|⟨x,G,_,V,h3,_⟩
   ·rw[<-hwi,V];simp[f9];omega
   ·rw[hwi]at V h3;obtain⟨k,b,R,S⟩:=mem_steps.1 h3;have hkl:=(uB.1 R).1;rcases S with⟨_,h5⟩|⟨_,_,h5⟩<;>(rw[h5,V];dsimp only;omega)
 have q:(decide (0<=bF W Y n)&&oY n l.length W&&inB f&&inB Y)=true:=by
  rw[hwo,EI hT hfin,EI hT (λ k R=>h.low k (by rw[<-h.nl];exact R)),uZ ht0];rfl
 have hat:∀v:Nat,v<n->at0 ((Y.set s (at0 Y s+m)).set t (at0 (Y.set s (at0 Y s+m)) t-m)) v=at0 Y v+((if s=v then m else 0)-(if t=v then m else 0)):=by
  intro v X;have e1:∀v:Nat,at0 (Y.set s (at0 Y s+m)) v=if v=s then at0 Y s+m else at0 Y v:=λ v=>by
   rw[iY _ _ _ _ xA];by_cases Z:v=s
   ·rw[if_pos ⟨xA,by rw[h.nl];exact hsn⟩,if_pos Z]
   ·rw[if_neg xA,if_neg Z]
  rw[iY _ _ _ _ xA,e1 t,if_neg (show¬t=s from λ J=>hst J.symm)];by_cases Z:v=t
  ·subst Z;rw[if_pos ⟨rfl,by rw[yJ,h.nl];exact X⟩,if_neg hst,if_pos rfl];omega
  ·rw[if_neg xA,e1 v,if_neg (show¬t=v from λ J=>Z J.symm)];by_cases V:v=s
   ·subst V;rw[if_pos rfl,if_pos rfl];omega
   ·rw[if_neg V,if_neg (λ J=>V J.symm)];omega
 have hps':mG ((Y.set s (at0 Y s+m)).set t (at0 (Y.set s (at0 Y s+m)) t-m)) n=mG Y n+-m:=by
  refine zh (i:=t) htn λ v X=>?_
  rw[hat v X];by_cases Z:t=v
  ·subst Z;rw[if_pos rfl,if_neg hst,if_pos rfl];omega
  ·rw[if_neg Z,if_neg Z];by_cases V:s=v
   ·subst V;rw[if_pos rfl];omega
   ·rw[if_neg V];omega
 refine⟨cG W f m t K,(Y.set s (at0 Y s+m)).set t (at0 (Y.set s (at0 Y s+m)) t-m),?_,?_,xA⟩
 ·rw[tf,hW];dsimp only;rw[htt]at q;rw[htt,hstop];dsimp only;rw[if_pos q,hmdef,hs,uK,uK]
 ·obtain⟨hi,hhi⟩:=Py p n;refine⟨by rw[l9,h.fl],by rw[yJ,yJ,h.nl],λ k=>?_,?_,λ v X=>?_,λ v X=>?_,λ k=>?_⟩
  ·obtain⟨a1,a2⟩:=hsl k;have:=h.pos k;by_cases I:∃j,j<K/\(aR W t j).2.2.2=true/\(aR W t j).2.2.1=k
   ·obtain⟨j,U,Z,V⟩:=I;have:=hmb j U Z;rw[V]at this;omega
   ·have:=a1 λ j U A=>I ⟨j,U,A.1,A.2⟩
    omega
  ·
   refine⟨λ v=>if Rch W v then lgW W v else p v-(hi+34359738368+16777216),(lW hb).2 λ k b R=>?_⟩;have hbb:=hb k b R;have hpb:=(lW hb).1 hp k b R;have hh1:=hhi b.1.toNat xA
   try dsimp only
   by_cases M:Rch W b.1.toNat
   ·obtain⟨Q,c3⟩:=hout k b R M;rw[if_pos M,if_pos Q];refine⟨c3,λ hf=>?_⟩;by_cases c4:0<at0 f k
    ·exact(hinn k b R c4 Q).2
    ·have I:∃j,j<K/\(aR W t j).2.2.2=false/\(aR W t j).2.2.1=k:=gH λ E=>by
      have:=(hsu k).1 λ j U A=>E ⟨j,U,A.1,A.2⟩
      omega
     obtain⟨j,U,Z,V⟩:=I;obtain⟨x,v,X,G,_,_,_,_,_,_,h3⟩:=N j U;obtain⟨k',b',H,J,O⟩:=F.step j U;have:k'=k:=xA;subst this;rw[R]at H;cases H;rcases O with⟨_,S,h5⟩|⟨S,_⟩
     ·have hlen:(aR W t j).2.1=b.2.2.1:=by
       obtain⟨x',v',hv',hx',_,_,_,_,h6,_⟩:=N j U;obtain⟨k2,b2,hk2,h7⟩:=mem_steps.1 h6;rcases h7 with⟨_,h8⟩|⟨_,_,h8⟩
       ·rw[h8]at J|-;have:k2=k':=by dsimp only at J;omega
        subst this;rw[R]at hk2;cases hk2;rfl
       ·rw[h8]at Z;cases Z
      rw[hlen]at h3;rw[show b.1.toNat=x by rw[S,G];omega,show b.2.1.toNat=v by rw[h5,X];omega];exact h3
     ·rw[Z]at S;cases S
   ·rw[if_neg M];have hnof:Rch W b.2.1.toNat->¬0<at0 (cG W f m t K) k:=by
     intro Q hf;have c4:¬0<at0 f k:=λ h0=>M (hinn k b R h0 Q).1
     have I:∃j,j<K/\(aR W t j).2.2.2=false/\(aR W t j).2.2.1=k:=gH λ E=>by
      have:=(hsu k).1 λ j U A=>E ⟨j,U,A.1,A.2⟩
      omega
     obtain⟨j,U,Z,V⟩:=I;obtain⟨x,v,X,G,_,_,z,_⟩:=N j U;obtain⟨k',b',H,J,O⟩:=F.step j U;have:k'=k:=xA;subst this;rw[R]at H;cases H;rcases O with⟨_,S,_⟩|⟨S,_⟩
     ·exact M (by rw[show b.1.toNat=x by rw[S,G];omega];exact z)
     ·rw[Z]at S;cases S
    by_cases Q:Rch W b.2.1.toNat
    ·rw[if_pos Q];have:=hlow b.2.1.toNat xA Q;exact⟨xA,λ hf=>absurd hf (hnof Q)⟩
    ·rw[if_neg Q];refine⟨xA,λ hf=>?_⟩;by_cases c4:0<at0 f k
     ·have:=hpb.2 c4;omega
     ·exfalso;have I:∃j,j<K/\(aR W t j).2.2.2=false/\(aR W t j).2.2.1=k:=gH λ E=>by
       have:=(hsu k).1 λ j U A=>E ⟨j,U,A.1,A.2⟩
       omega
      obtain⟨j,U,Z,V⟩:=I;obtain⟨x,v,X,G,_,_,z,_⟩:=N j U;obtain⟨k',b',H,J,O⟩:=F.step j U;have:k'=k:=xA;subst this;rw[R]at H;cases H;rcases O with⟨_,S,_⟩|⟨S,_⟩
      ·exact M (by rw[show b.1.toNat=x by rw[S,G];omega];exact z)
      ·rw[Z]at S;cases S
  ·rw[hat v X,hsd v,h.dv v X,hs];by_cases M:s=v<;>by_cases Q:t=v
   ·rw[if_pos M,if_pos Q,if_pos xA,if_pos xA];omega
   ·rw[if_pos M,if_neg Q,if_neg xA,if_pos xA];omega
   ·rw[if_neg M,if_pos Q,if_pos xA,if_neg xA];omega
   ·rw[if_neg M,if_neg Q,if_neg xA,if_neg xA];omega
  ·rw[hat v X];have:=h.low v X;by_cases M:s=v<;>by_cases Q:t=v
   ·exact absurd (M.trans Q.symm) hst
   ·subst M;rw[if_pos rfl,if_neg Q];omega
   ·subst Q;rw[if_neg M,if_pos rfl];omega
   ·rw[if_neg M,if_neg Q];omega
  ·have:=(hsu k).2;have:=h.cap k;omega
theorem KJ {n:Nat}{l:List Bd}{T:Int}(H:BdsOk n l)(G:n<=2048)(I:T<=1125899906842624):∀(R:Nat) (f Z:List Int),Cert n l T f Z->mG Z n<R->
  ∃Q V,mi n l R f Z=some Q/\Cert n l T Q V/\∀v:Nat,v<n->0<=at0 V v:=by
 intro R
 induction R with
 |zero=>intro f Z h J;have:=t7 Z n;omega
 |succ R C=>
  intro f Z h J;rw[mi];rcases Y:(dP Z n).isEmpty with _|_
  ·have U:∃s:Nat,s<n/\at0 Z s<0:=by
    cases O:dP Z n with
    |nil=>rw[O]at Y;cases Y
    |cons x r=>
     have N:x∈dP Z n:=by rw[O];simp
     have E:=(rQ Z n).1 x N;have:=rM.1 (show((x.toNat:Nat):Int)∈dP Z n by rw[show((x.toNat:Nat):Int)=x by omega];exact N);exact⟨_,this.1,this.2⟩
   obtain⟨M,S,X,L,B⟩:=KK H G I h U;rw[if_neg xC,X]
   try dsimp only
   exact C M S L xA
  ·rw[if_pos rfl];refine⟨f,Z,rfl,h,λ v F=>?_⟩;rcases Bq (at0 Z v) 0 with X|X
   ·have:=(rM (n:=n)).2 ⟨F,X⟩;rw[Ap.1 Y]at this;simp at this
   ·exact X
end partZb
theorem at0_zeros (l:List Bd)(k:Nat):at0 (zeros l) k=0:=by
 simp only[at0,zeros,gA];split<;>rfl
theorem N4 {l:List Bd}(v:Int):aT (iv l v) l.length=-(d8 l (zeros l) v):=by
 rw[d8,<-sy];refine iK λ k h=>?_
 obtain⟨b,Z⟩:=ak h;have Y:(zeros l)[k]? =some 0:=by simp[zeros,h]
 simp only[iv,eA,Z,Y];split<;>split<;>omega
theorem potB_zeros {l:List Bd}{f:List Int}{p:Nat->Int}(h:PotB l f p):PotB l (zeros l) p:=λ k b Y=>
 ⟨(h k b Y).1,λ Z=>by rw[at0_zeros]at Z;omega⟩
theorem potB_nil {l:List Bd}{p:Nat->Int}:PotB l [] p↔PotB l (zeros l) p:=
 ⟨potB_zeros,λ h k b Y=>⟨(h k b Y).1,λ Z=>by simp[at0]at Z⟩⟩
theorem BW {W:List Way}{n v:Nat}(h:W.length=n)(Z:v<n):at0 (jh W) v=lgW W v:=by
 have:=iL (v:=(v:Int)) h xA xA;rw[uK]at this;rw[at0,jh,uK,uJ,this];rfl
structure Best (n:Nat)(l:List Bd)(r f:List Int):Prop where
 fl:f.length=l.length
 rl:r.length=n
 pos:∀k:Nat,0<=at0 f k/\at0 f k<=1099511627776
 dv:∀v:Nat,v<n->d8 l f v=0
 opt:∀v:Nat,v<n->Opt (aS l f) (iN n) v (at0 r v)
theorem solve_best {n:Nat}{l:List Bd}(F:nOk ((n:Int),l)=true)(I:∃p,PotB l (zeros l) p):∃r f,SolveOk ((n:Int),l) r f/\Best n l r f:=by
 obtain⟨U,K,hl⟩:=bdsOk_of F;obtain⟨p,I⟩:=I;have O:=(lW (f:=zeros l) U).2 I;obtain⟨W0,N,_,_⟩:=w3 U K O;have R:∀v:Nat,v<n->at0 (dz l n l.length) v=aT (iv l v) l.length:=λ v Z=>by
  rw[at0,uK,rP Z];rfl
 have T:∀v:Nat,v<n->-32768000<=at0 (dz l n l.length) v/\at0 (dz l n l.length) v<=32768000:=λ v Z=>by
  have:=xo (l:=l) (v:=(v:Int)) (m:=l.length) (uI _) (λ k b L=>by have:=U k b L;omega);rw[R v Z];omega
 have B:mG (dz l n l.length) n<=32768000*(n:Int):=by
  have:=(sumI_le (f:=λ v:Nat=>max 0 (at0 (dz l n l.length) v)) (c:=32768000) (m:=n) (λ v Z=>by have:=T v Z;omega) n (uI _)).2;exact this
 have V:Cert n l 67108864000 (zeros l) (dz l n l.length):=
  ⟨by simp[zeros],pT _ _ _,λ k=>by rw[at0_zeros];exact qR _,⟨p,O⟩,λ v Z=>by rw[R v Z,N4],λ v Z=>by have:=T v Z;omega,λ k=>by rw[at0_zeros];omega⟩
 obtain⟨f,s,C,X,J⟩:=KJ U K xC ((mG (dz l n l.length) n).toNat+1) (zeros l) (dz l n l.length) V (by have:=t7 (dz l n l.length) n;omega);obtain⟨q,A⟩:=X.pot;obtain⟨W,E,Y,Q⟩:=w3 U K A;refine⟨jh W,f,?_,X.fl,by simp[jh,Y],λ k=>?_,λ v Z=>?_,λ v Z=>by rw[BW Y Z];exact Q v Z⟩
 ·exact⟨n,rfl,by simp[jh,Y],X.fl,qw n l f _ W0 W F N C X.fl E Y⟩
 ·have:=X.pos k;have:=X.cap k;have:=t7 s n;omega
 ·
  have G:=HJ U X.fl (λ _=>true) l.length (uI _);have z:aT (ou l f (λ _=>true)) l.length=0:=by
   rw[iK (h:=λ _=>0) λ k L=>by
    obtain⟨b,M⟩:=ak L;simp only[ou,M,if_true];omega,ks]
  simp only[if_true]at G;rw[z]at G;have S:∀v:Nat,v<n->d8 l f v<=0:=λ v Z=>by have:=X.dv v Z;have:=J v Z;omega
  rcases Bq (d8 l f v) 0 with H|H
  ·have:=sx (g:=λ v:Nat=>aT (eA l f v) l.length) (h:=λ _=>0) (n:=n) (i:=v) S Z H;rw[ks]at this;omega
  ·have:=S v Z;omega
section best
variable {n:Nat}{l:List Bd}{r f:List Int}
theorem best_pot (Z:BdsOk n l)(h:Best n l r f):PotB l f (λ v=>at0 r v):=by
 refine(lW Z).1 λ v s Y=>?_
 have X:=steps_good Z v s Y;obtain⟨⟨j,V⟩,_⟩:=h.opt v X.1;exact(h.opt s.1.toNat xA).2 _ _ (.step j v _ s V Y)
theorem best_bd (Y:BdsOk n l)(h:Best n l r f)(v:Nat):0<=at0 r v/\at0 r v<=16777216*(n:Int):=by
 rcases uD v n with Z|Z
 ·exact OH Y (h.opt v Z)
 ·have:at0 r v=0:=by rw[at0,uK,uL (by rw[h.rl];exact Z)];rfl
  rw[this];omega
theorem potB_at (V:BdsOk n l){f:List Int}(h:PotB l f (λ v=>at0 r v)){k:Nat}{b:Bd}(X:l[k]? =some b):b.2.2.1<=gap r b/\(0<at0 f k->gap r b<=b.2.2.1):=by
 have U:=V k b X;obtain⟨Y,Z⟩:=h k b X;dsimp only at Y Z;rw[show((b.1.toNat:Nat):Int)=b.1 by omega,show((b.2.1.toNat:Nat):Int)=b.2.1 by omega]at Y Z;rw[gap];exact⟨xA,λ T=>by have:=Z T;omega⟩
theorem QU (Y:nOk ((n:Int),l)=true)(T:r.length=n)(V:∀v:Nat,v<n->-34359738368<=at0 r v/\at0 r v<=34359738368):rkOk ((n:Int),l) r=true:=by
 simp only[rkOk,uN,uG,yL,qH];refine⟨⟨Y,xA⟩,λ x U=>?_⟩;obtain⟨k,h⟩:=qA U;have X:=(uB.1 h).1;have:=V k xA;have e:at0 r k=x:=by rw[at0,uK,h];rfl
 have Z:oS x=true:=by simp only[oS,uG];omega
 rw[Z];decide
theorem D6 (Z:nOk ((n:Int),l)=true)(V:r.length=n)(S:∀v:Nat,v<n->-34359738368<=at0 r v/\at0 r v<=34359738368)(T:PotB l (zeros l) (λ v=>at0 r v)):gl ((n:Int),l) r=true:=by
 obtain⟨Y,R,U⟩:=bdsOk_of Z;simp only[gl,uN,yL,qH,uG];refine⟨QU Z V S,λ b h=>?_⟩;obtain⟨k,X⟩:=qA h;have:=(potB_at Y T X).1;omega
theorem D7 (h:gl ((n:Int),l) r=true):nOk ((n:Int),l)=true/\r.length=n/\PotB l (zeros l) (λ v=>at0 r v):=by
 have R:rkOk ((n:Int),l) r=true:=by simp only[gl,uN]at h;exact h.1
 obtain⟨Y,Z,_⟩:=rkOk_in R;obtain⟨V,Q,S⟩:=bdsOk_of Y;simp only[gl,uN,yL,qH,uG]at h;refine⟨Y,by dsimp only at Z;omega,λ k b X=>⟨?_,λ T=>by rw[at0_zeros]at T;omega⟩⟩;have U:=V k b X;have:=h.2 b (uA X);rw[gap]at this;dsimp only;rw[show((b.1.toNat:Nat):Int)=b.1 by omega,show((b.2.1.toNat:Nat):Int)=b.2.1 by omega];omega
theorem best_feas (Y:nOk ((n:Int),l)=true)(h:Best n l r f):gl ((n:Int),l) r=true:=by
 obtain⟨Z,V,X⟩:=bdsOk_of Y;exact D6 Y h.rl (λ v U=>by have:=best_bd Z h v;omega) (potB_zeros (best_pot Z h))
theorem Kc (Y:BdsOk n l)(h:Best n l r f):jf ((n:Int),l) f=(r,true):=by
 obtain⟨T,X,U,V⟩:=E9 (f:=f) Y ((lW Y).2 (best_pot Y h));rw[X]
 congr 1
 refine yX λ v=>?_
 rcases uD v n with Z|Z
 ·rw[aK xA,aK (by rw[h.rl];exact Z),tT (V v Z) (h.opt v Z)]
 ·rw[uL xA,uL (by rw[h.rl];exact Z)]
def costB (l:List Bd)(r:List Int):Int:=aT (costAt r l) l.length
theorem cost_is (h:rkOk ((n:Int),l) r=true):m7 ((n:Int),l) r=costB l r:=by rw[m7,if_pos h];rfl
theorem K8 (O:BdsOk n l)(M:f.length=l.length)(V:∀v:Nat,v<n->d8 l f v=0)(x:Nat->Int):
  aT (λ k=>match l[k]? with|some b=>(at0 f k-b.2.2.2)*(x b.2.1.toNat-x b.1.toNat)|none=>0) l.length=0:=by
 have T:∀m,m<=l.length->aT (λ v=>x v*aT (eA l f v) m) n=aT (λ k=>match l[k]? with|some b=>(at0 f k-b.2.2.2)*(x b.2.1.toNat-x b.1.toNat)|none=>0) m:=by
  intro m
  induction m with
  |zero=>intro _;simp only[aT];rw[iK (h:=λ _=>0) (λ v _=>Ax _),ks]
  |succ m L=>
   intro K;obtain⟨b,Z⟩:=ak (show m<l.length by omega);obtain⟨y,R⟩:=ak (show m<f.length by omega);have N:=O m b Z;have U:at0 f m=y:=by rw[at0,uK,R];rfl
   rw[eT,<-L xA,Z];dsimp only;have e:∀v,v<n->x v*aT (eA l f v) (m+1)=x v*aT (eA l f v) m+((if b.2.1.toNat=v then x b.2.1.toNat*(y-b.2.2.2)else 0)+-(if b.1.toNat=v then x b.1.toNat*(y-b.2.2.2)else 0)):=by
    intro v S;have Q:eA l f v m=(if b.2.1=(v:Int)then y-b.2.2.2 else 0)-(if b.1=(v:Int)then y-b.2.2.2 else 0):=by simp[eA,Z,R]
    rw[eT,Q,zN]
    congr 1
    by_cases X:b.2.1.toNat=v
    ·have Y:¬b.1.toNat=v:=xA;rw[if_pos X,if_neg Y,if_pos (show b.2.1=(v:Int) by omega),if_neg (show¬b.1=(v:Int) by omega),X];simp
    ·rw[if_neg X,if_neg (show¬b.2.1=(v:Int) by omega)];by_cases Y:b.1.toNat=v
     ·rw[if_pos Y,if_pos (show b.1=(v:Int) by omega),Y,Int.zero_sub,Int.mul_neg];omega
     ·rw[if_neg Y,if_neg (show¬b.1=(v:Int) by omega)];simp
   rw[iK e,n6,n6,sy,oV,oV,if_pos (show b.2.1.toNat<n by omega),if_pos (show b.1.toNat<n by omega),U,Dp (y-b.2.2.2),Int.sub_mul];omega
 rw[<-T l.length (uI _),iK (h:=λ _=>0) (λ v S=>by rw[show aT (eA l f v) l.length=0 from V v S];exact Ax _),ks]
def oq (l:List Bd)(f:List Int)(k:Nat):Int:=match l[k]? with|some b=>at0 f k*b.2.2.1|none=>0
def fS (l:List Bd)(f:List Int):Int:=aT (oq l f) l.length
theorem tj (V:BdsOk n l)(X:f.length=l.length)(Y:∀v:Nat,v<n->d8 l f v=0)(x:List Int):
  costB l x=aT (λ k=>match l[k]? with|some b=>at0 f k*gap x b|none=>0) l.length:=by
 have h:=K8 V X Y (λ v=>at0 x v);have e:∀k,k<l.length->(match l[k]? with|some b=>(at0 f k-b.2.2.2)*((λ v:Nat=>at0 x v) b.2.1.toNat-(λ v:Nat=>at0 x v) b.1.toNat)|none=>0)=
   (match l[k]? with|some b=>at0 f k*gap x b|none=>0)+-(costAt x l k):=by
  intro k T;obtain⟨b,Z⟩:=ak T;have U:=V k b Z;simp only[Z,costAt];rw[show((b.1.toNat:Nat):Int)=b.1 by omega,show((b.2.1.toNat:Nat):Int)=b.2.1 by omega,Int.sub_mul,gap];omega
 rw[iK e,n6,sy]at h;rw[costB];omega
theorem Dx (V:BdsOk n l)(X:f.length=l.length)(Z:∀k:Nat,0<=at0 f k)(Y:∀v:Nat,v<n->d8 l f v=0){x:List Int}(T:PotB l (zeros l) (λ v=>at0 x v)):fS l f<=costB l x:=by
 rw[tj V X Y];refine oW λ k U=>?_
 obtain⟨b,h⟩:=ak U;simp only[oq,h];exact jU (potB_at V T h).1 (Z k)
theorem vX (U:BdsOk n l)(V:f.length=l.length)(Y:∀k:Nat,0<=at0 f k)(X:∀v:Nat,v<n->d8 l f v=0){x:List Int}(R:PotB l f (λ v=>at0 x v)):costB l x=fS l f:=by
 rw[tj U V X];refine iK λ k S=>?_
 obtain⟨b,Z⟩:=ak S;simp only[oq,Z];obtain⟨Q,T⟩:=potB_at U R Z;rcases Bq 0 (at0 f k)with h|h
 ·have:=T h;rw[show gap x b=b.2.2.1 by omega]
 ·have:=Y k;rw[show at0 f k=0 by omega];simp
theorem Iq (U:BdsOk n l)(S:f.length=l.length)(V:∀k:Nat,0<=at0 f k)(T:∀v:Nat,v<n->d8 l f v=0){x:List Int}(Q:PotB l (zeros l) (λ v=>at0 x v))(N:costB l x<=fS l f):PotB l f (λ v=>at0 x v):=by
 intro k b Y;refine⟨(Q k b Y).1,λ L=>gH λ X=>?_⟩;have R:=(uB.1 Y).1;have M:=U k b Y;rw[tj U S T]at N;have J:=sx (g:=oq l f) (h:=λ k=>match l[k]? with|some b=>at0 f k*gap x b|none=>0) (n:=l.length) (i:=k) (λ j K=>by
  obtain⟨c,Z⟩:=ak K;simp only[oq,Z];exact jU (potB_at U Q Z).1 (V j)) R (by
  simp only[oq,Y];refine Int.mul_lt_mul_of_pos_left ?_ L;have O:=(Q k b Y).1;dsimp only at O X;rw[show((b.1.toNat:Nat):Int)=b.1 by omega,show((b.2.1.toNat:Nat):Int)=b.2.1 by omega]at O X;rw[gap];omega)
 rw[fS]at N;omega
theorem pn (Z:BdsOk n l)(h:Best n l r f){x:List Int}(Y:PotB l (zeros l) (λ v=>at0 x v)):
  costB l r<=costB l x/\(costB l x=costB l r->(∀v:Nat,v<n->0<=at0 x v)->∀v:Nat,v<n->at0 r v<=at0 x v):=by
 have R:=vX Z h.fl (λ k=>(h.pos k).1) h.dv (best_pot Z h);have Q:=Dx Z h.fl (λ k=>(h.pos k).1) h.dv Y;refine⟨xA,λ O X v T=>?_⟩;have V:=(lW Z).2 (Iq Z h.fl (λ k=>(h.pos k).1) h.dv Y xA);obtain⟨⟨j,S⟩,_⟩:=h.opt v T;have:=IZ (lo:=0) V (λ u U=>X u (mem_allI.1 U)) S;omega
end best
end Go.Proofs.YtjjbhjnpeenbkaaGreatDoor.Sx
