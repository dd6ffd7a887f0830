/- Walks in a net of steps; the search for longest ways: it ends, and its ways are the longest. -/
import Derived.Test.YtjjbhjnpeenbkaaGreatDoorSxL
set_option linter.unusedSimpArgs false
set_option linter.unusedVariables false
set_option maxHeartbeats 16000000
namespace Go.Proofs.YtjjbhjnpeenbkaaGreatDoor.Sx
open Go Go.PS Go.Proofs
section partU
theorem tO :∀(n:Nat) (l:List Nat),l.Nodup->(∀x∈l,x<n)->l.length<=n:=by
 intro n
 induction n with
 |zero=>intro l _ h;cases l with
  |nil=>exact uI _
  |cons a l=>have:=h a xB;omega
 |succ n X=>
  intro l Y h;by_cases hn:n∈l
  ·have V:=X (l.erase n) (Y.erase n) (λ x Z=>by
    have U:=(Y.mem_erase_iff).1 Z;have:=h x U.2;omega)
   rw[kU hn]at V;omega
  ·have:=X l Y (λ x Z=>by
    have:=h x Z;have:x≠n:=λ T=>hn (T▸Z)
    omega)
   omega
theorem Oi {g:Nat->Nat}:∀(k:Nat),(∀i j,i<j->j<k->g i≠g j)->((List.range k).map g).Nodup:=by
 intro k
 induction k with
 |zero=>intro _;simp
 |succ k U=>
  intro h;rw[qE,uO,zC];refine⟨U λ i j Z T=>h i j Z xA,xB,λ a X b Y=>?_⟩;obtain⟨i,V,rfl⟩:=uR.1 X;simp at Y;rw[Y];exact h i k (yD.1 V) xA
theorem wJ {g:Nat->Nat}{k n:Nat}(h:∀i,i<k->g i<n)(Z:∀i j,i<j->j<k->g i≠g j):k<=n:=by
 have:=tO n _ (Oi k Z) (λ x X=>by
  obtain⟨i,Y,rfl⟩:=uR.1 X;exact h i (yD.1 Y))
 simpa using this
inductive Wk (ST:Nat->List Stp)(S:Nat->Prop):Nat->Nat->Int->Prop
 |start (v:Nat) (h:S v):Wk ST S 0 v 0
 |step (k v:Nat) (d:Int) (s:Stp) (h:Wk ST S k v d) (hs:s∈ST v):Wk ST S (k+1) s.1.toNat (d+s.2.1)
def Pot (ST:Nat->List Stp)(p:Nat->Int):Prop:=∀v s,s∈ST v->p v+s.2.1<=p s.1.toNat
def fh (n:Nat)(ST:Nat->List Stp):Prop:=∀v s,s∈ST v->v<n/\0<=s.1/\s.1<(n:Int)/\s.1≠v/\-16777216<=s.2.1/\s.2.1<=16777216
variable {ST:Nat->List Stp}{S:Nat->Prop}{n:Nat}{p:Nat->Int}
theorem IZ {lo:Int}(hp:Pot ST p)(Z:∀v,S v->lo<=p v){k v:Nat}{d:Int}(h:Wk ST S k v d):d<=p v-lo:=by
 induction h with
 |start v h=>have:=Z v h;omega
 |step k v d s _ Y X=>have:=hp v s Y;omega
theorem qp (hg:fh n ST)(Z:∀v,S v->v<n){k v:Nat}{d:Int}(h:Wk ST S k v d):v<n:=by
 cases h with
 |start v h=>exact Z v h
 |step k v d s _ Y=>have:=hg v s Y;omega
theorem sG (hg:fh n ST){k v:Nat}{d:Int}(h:Wk ST S k v d):-(16777216*(k:Int))<=d/\d<=16777216*(k:Int):=by
 induction h with
 |start v h=>omega
 |step k v d s _ Z Y=>have:=hg v s Z;omega
def Opt (ST:Nat->List Stp)(S:Nat->Prop)(v:Nat)(d:Int):Prop:=(∃k,Wk ST S k v d)/\∀k Z,Wk ST S k v Z->Z<=d
theorem tT {v:Nat}{d Z:Int}(h:Opt ST S v d)(X:Opt ST S v Z):d=Z:=by
 obtain⟨⟨k,T⟩,V⟩:=h;obtain⟨⟨R,Y⟩,U⟩:=X;have:=V R Z Y;have:=U k d T;omega
theorem LA {P:Int->Prop}{B:Int}(U:∀d,P d->d<=B):∀(m:Nat) (a:Int),P a->B-a<=m->∃d,P d/\∀Z,P Z->Z<=d:=by
 intro m
 induction m with
 |zero=>intro a V R;exact⟨a,V,λ Z Y=>by have:=U Z Y;omega⟩
 |succ m Q=>
  intro a V R;by_cases h:∃d,P d/\a<d
  ·obtain⟨d,Y,T⟩:=h;exact Q d Y xA
  ·exact⟨a,V,λ Z Y=>by
    rcases Bq a Z with X|X
    ·exact absurd ⟨Z,Y,X⟩ h
    ·exact X⟩
theorem xG {lo:Int}(hp:Pot ST p)(X:∀v,S v->lo<=p v){k v:Nat}{d:Int}(h:Wk ST S k v d):∃Z,Opt ST S v Z:=by
 obtain⟨Z,⟨Q,V⟩,U⟩:=LA (P:=λ d=>∃k,Wk ST S k v d) (B:=p v-lo) (λ d ⟨k,R⟩=>IZ hp X R) (p v-lo-d).toNat d ⟨k,h⟩ xA;exact⟨Z,⟨Q,V⟩,λ k Y T=>U Y ⟨k,T⟩⟩
def sM (ST:Nat->List Stp)(S:Nat->Prop)(k v:Nat):Prop:=∃d,Opt ST S v d/\Wk ST S k v d/\∀j,j<k->¬Wk ST S j v d
theorem NV :∀(k v:Nat),sM ST S k v->∃g:Nat->Nat,∀i,i<=k->sM ST S i (g i):=by
 intro k
 induction k with
 |zero=>intro v h;exact⟨λ _=>v,λ i N=>by rw[show i=0 by omega];exact h⟩
 |succ k K=>
  intro v h;have Q:=h;obtain⟨d,M,L,Z⟩:=h;cases L with
  |step _ u Y s T U=>
   have X:Opt ST S u Y:=⟨⟨k,T⟩,λ j R O=>by
    have:=M.2 _ _ (Wk.step j u R s O U);omega⟩
   obtain⟨g,hg⟩:=K u ⟨Y,X,T,λ j J V=>Z (j+1) xA (.step j u Y s V U)⟩;refine⟨λ i=>if i=k+1 then s.1.toNat else g i,λ i N=>?_⟩;simp only;split
   ·rename_i h;rw[h];exact Q
   ·exact hg i xA
theorem NW {v:Nat}{d:Int}(h:Opt ST S v d):∃k,sM ST S k v:=by
 obtain⟨k,Y⟩:=h.1;have U:∀m k,k<=m->Wk ST S k v d->∃k,sM ST S k v:=by
  intro m
  induction m with
  |zero=>intro k T Y;exact⟨k,d,h,Y,λ j X=>xA⟩
  |succ m Q=>
   intro k R Y;by_cases Z:∃j,j<k/\Wk ST S j v d
   ·obtain⟨j,X,V⟩:=Z;exact Q j xA V
   ·exact⟨k,d,h,Y,λ j X V=>Z ⟨j,X,V⟩⟩
 exact U k k (uI _) Y
theorem opt_short (hg:fh n ST)(T:∀v,S v->v<n){v:Nat}{d:Int}(h:Opt ST S v d):∃k,k+1<=n/\Wk ST S k v d:=by
 obtain⟨k,V⟩:=NW h;obtain⟨g,Z⟩:=NV k v V;have X:k+1<=n:=wJ (g:=g) (λ i J=>by
  obtain⟨d,_,Q,_⟩:=Z i xA;exact qp hg T Q) (λ i j Y I R=>by
  obtain⟨L,U,w1,H⟩:=Z i xA;obtain⟨K,N,G,O⟩:=Z j xA;rw[R]at U w1;have:=tT U N;subst this;exact O i Y w1)
 obtain⟨M,o,w,_⟩:=V;rw[tT h o];exact⟨k,X,w⟩
end partU
section partV
abbrev lgW (W:List Way)(v:Nat):Int:=(wAt W (v:Int)).1
abbrev bgW (W:List Way)(v:Int):Bool:=(wAt W v).2.2.2
def Stop (W:List Way)(v:Int)(k:Nat):Prop:=bgW W (az W v k)=true/\∀j,j<k->bgW W (az W v j)=false
def Rch (W:List Way)(v:Nat):Prop:=lgW W v≠-1152921504606846976
def Jo (ST:Nat->List Stp)(S:Nat->Prop)(n:Nat)(W:List Way)(v:Nat):Prop:=
 (wAt W (v:Int)=f9/\S v)\/(∃u:Nat,u<n/\Rch W u/\(wAt W (v:Int)).2.1=u/\(wAt W (v:Int)).2.2.1∈ST u/\(wAt W (v:Int)).2.2.1.1=v/\bgW W v=false/\lgW W v<=lgW W u+(wAt W (v:Int)).2.2.1.2.1)
structure InvW (ST:Nat->List Stp)(S:Nat->Prop)(n c:Nat)(W:List Way):Prop where
 len:W.length=n
 sound:∀v,v<n->wAt W (v:Int)=ik\/(Rch W v/\∃j,j<=c/\Wk ST S j v (lgW W v))
 starts:∀v,S v->v<n/\0<=lgW W v
 par:∀v,v<n->Rch W v->Jo ST S n W v
 chain:∀v,v<n->Rch W v->∃k,Stop W v k
variable {ST:Nat->List Stp}{S:Nat->Prop}{n:Nat}{p:Nat->Int}
theorem ue {c:Nat}{W:List Way}(h:InvW ST S n c W){v:Nat}(X:v<n)(Y:Rch W v):∃j,j<=c/\Wk ST S j v (lgW W v):=by
 rcases h.sound v X with Z|Z
 ·exact absurd (by rw[lgW,Z];rfl) Y
 ·exact Z.2
theorem i5 (W:List Way)(v:Int)(i:Nat):∀j,az W v (i+j)=az W (az W v i) j
 |0=>rfl
 |j+1=>by rw[<-zW,im,im,i5 W v i j]
theorem vL {c:Nat}{W:List Way}(hp:Pot ST p)(h:InvW ST S n c W){v:Nat}(L:v<n)(M:Rch W v){k:Nat}(O:∀j,j<k->bgW W (az W v j)=false):
  ∀i,i<=k->∃u:Nat,az W v i=u/\u<n/\Rch W u/\lgW W v-lgW W u<=p v-p u:=by
 intro i
 induction i with
 |zero=>intro _;exact⟨v,rfl,L,M,xA⟩
 |succ i J=>
  intro H;obtain⟨u,T,X,V,N⟩:=J xA;have Y:=O i xA;rw[T]at Y;rcases h.par u X V with⟨Z,_⟩|⟨x,K,U,Z,R,Q,_,I⟩
  ·rw[bgW,Z]at Y;cases Y
  ·refine⟨x,by rw[im,T];exact Z,K,U,?_⟩;have:=hp x _ R;rw[Q,uK]at this;omega
theorem S9 {W:List Way}{v:Int}{k:Nat}(h:Stop W v k):∀i j,i<j->j<=k->az W v i≠az W v j:=by
 intro i j T R U;obtain⟨X,V⟩:=h;have Y:az W v (j+(k-j))=az W (az W v j) (k-j):=i5 W v j (k-j);have Z:az W v (i+(k-j))=az W (az W v i) (k-j):=i5 W v i (k-j);rw[U,<-Y,show j+(k-j)=k by omega]at Z;have:=V (i+(k-j)) xA;rw[Z,X]at this;cases this
theorem QE {c:Nat}{W:List Way}(hp:Pot ST p)(hg:fh n ST)(hc:c+1<=34359738368)(h:InvW ST S n (c+1) W){v:Nat}{s:Stp}(hv:v<n)(hr:Rch W v)(hw:∃j,j<=c/\Wk ST S j v (lgW W v))(hs:s∈ST v)
  (hlt:(wAt W s.1).1<(wAt W v).1+s.2.1):InvW ST S n (c+1) (W.set s.1.toNat ((wAt W v).1+s.2.1,v,s,false)):=by
 obtain⟨hvn,hs0,hsn,hsv,hl1,hl2⟩:=hg v s hs;obtain⟨j,M,hwk⟩:=hw;obtain⟨t,ht⟩:∃t:Nat,s.1=t:=⟨s.1.toNat,xA⟩;have htn:t<n:=xA;have G:∀u:Nat,wAt (W.set s.1.toNat ((wAt W v).1+s.2.1,v,s,false)) (u:Int)=if(u:Int)=s.1 then((wAt W v).1+s.2.1,(v:Int),s,false)else wAt W u:=
  λ u=>n7 xA hs0 (by rw[h.len];omega)
 have hbd:=sG hg hwk;simp only[lgW]at hbd;have hnew:(wAt W v).1+s.2.1≠-1152921504606846976:=xA;have hpv:=hp v s hs;rw[ht,uK]at hpv;have hltt:lgW W t<lgW W v+s.2.1:=by rw[lgW,lgW,<-ht];exact hlt
 have hltt2:(wAt W (t:Int)).1<(wAt W (v:Int)).1+s.2.1:=hltt;generalize hW':W.set s.1.toNat ((wAt W v).1+s.2.1,(v:Int),s,false)=T at G|-;have C:wAt T (t:Int)=(lgW W v+s.2.1,(v:Int),s,false):=by rw[G,if_pos ht.symm]
 have E:∀u:Nat,u≠t->wAt T (u:Int)=wAt W u:=λ u Z=>by rw[G,if_neg xA]
 have U:∀u:Nat,lgW W u<=lgW T u:=λ u=>by
  by_cases Z:u=t
  ·subst Z;rw[lgW,lgW,C];exact Dr hltt2
  ·rw[lgW,lgW,E u Z];exact qR _
 have hrT:Rch T t:=by rw[Rch,lgW,C];exact hnew
 have I:∀u:Nat,u≠t->(Rch T u↔Rch W u):=λ u Z=>by rw[Rch,Rch,lgW,lgW,E u Z]
 have hvt:v≠t:=xA
 obtain⟨z,hkv⟩:=h.chain v hv hr;have B:=vL hp h hv hr hkv.2;have N:∀i,i<=z->az W v i≠(t:Int):=by
  intro i L A;obtain⟨u,Z,_,_,hle⟩:=B i L;have:u=t:=by rw[A]at Z;omega
  subst this;omega
 have H:∀i,i<=z->az T v i=az W v i:=by
  intro i
  induction i with
  |zero=>intro _;rfl
  |succ i ih=>
   intro L;obtain⟨u,Z,_⟩:=B i xA;have:=N i xA;rw[im,im,ih xA,Z,E u (by rw[Z]at this;omega)]
 have O:Stop T v z:=by
  refine⟨?_,λ j M=>?_⟩
  ·obtain⟨u,Z,_⟩:=B z (uI _);have F:=N z (uI _);rw[H z (uI _),Z,bgW,E u (by rw[Z]at F;omega),<-Z];exact hkv.1
  ·obtain⟨u,Z,_⟩:=B j xA;have F:=N j xA;rw[H j xA,Z,bgW,E u (by rw[Z]at F;omega),<-Z];exact hkv.2 j M
 have V:Stop T t (1+z):=by
  have hb1:az T (t:Int) 1=v:=by rw[im];show(wAt T (t:Int)).2.1=v;rw[C]
  refine⟨by rw[i5,hb1];exact O.1,λ j M=>?_⟩;cases j with
  |zero=>show(wAt T (t:Int)).2.2.2=false;rw[C]
  |succ j=>rw[show j+1=1+j by omega,i5,hb1];exact O.2 j xA
 refine⟨by rw[<-hW'];simp[h.len],λ u Z=>?_,λ u Z=>?_,λ u Z hru=>?_,λ u Z hru=>?_⟩
 ·by_cases X:u=t
  ·subst X
   right
   refine⟨hrT,j+1,xA,?_⟩;have:=Wk.step j v _ s hwk hs;rw[ht,uK]at this;rw[lgW,C];exact this
  ·rw[I u X,lgW,E u X];exact h.sound u Z
 ·have:=h.starts u Z;have:=U u;omega
 ·by_cases X:u=t
  ·subst X
   right
   refine⟨v,hv,(I v hvt).2 hr,by rw[C],by rw[C];exact hs,by rw[C];exact ht,by rw[bgW,C],?_⟩;rw[lgW,C];exact Int.add_le_add_right (U v) _
  ·have Q:=(I u X).1 hru;rcases h.par u Z Q with⟨F,h2⟩|⟨x,hx,hxr,F,h2,h3,h4,h5⟩
   ·left;rw[E u X];exact⟨F,h2⟩
   ·right
    refine⟨x,hx,?_,?_⟩
    ·by_cases hxt:x=t
     ·subst hxt;exact hrT
     ·exact(I x hxt).2 hxr
    ·rw[lgW,bgW,E u X];exact⟨F,h2,h3,h4,zD h5 (Int.add_le_add_right (U x) _)⟩
 ·by_cases X:u=t
  ·subst X;exact⟨_,V⟩
  ·have Q:=(I u X).1 hru;obtain⟨k,hk⟩:=h.chain u Z Q;have hcu:=vL hp h Z Q hk.2
   have R:∀i,i<=k->(∀j,j<i->az W u j≠(t:Int))->az T u i=az W u i:=by
    intro i
    induction i with
    |zero=>intro _ _;rfl
    |succ i ih=>
     intro L N;obtain⟨x,hx,_⟩:=hcu i xA;have:=N i xA;rw[im,im,ih xA (λ j M=>N j xA),hx,E x (by rw[hx]at this;omega)]
   have q:∀i,i<=k->az W u i≠(t:Int)->bgW T (az W u i)=bgW W (az W u i):=by
    intro i L hne;obtain⟨x,hx,_⟩:=hcu i L;rw[hx,bgW,bgW,E x (by rw[hx]at hne;omega)]
   by_cases J:∃i,i<=k/\az W u i=(t:Int)
   ·have least:∀m i,i<=m->i<=k->az W u i=(t:Int)->∃i,i<=k/\az W u i=(t:Int)/\∀j,j<i->az W u j≠(t:Int):=by
     intro m
     induction m with
     |zero=>intro i L K A;exact⟨i,K,A,λ j M=>xA⟩
     |succ m ih=>
      intro i L K A;by_cases hex:∃j,j<i/\az W u j=(t:Int)
      ·obtain⟨j,M,b⟩:=hex;exact ih j xA xA b
      ·exact⟨i,K,A,λ j M b=>hex ⟨j,M,b⟩⟩
    obtain⟨i,L,A⟩:=J;obtain⟨i,K,hie,Y⟩:=least i i (uI _) L A;have e1:az T u i=(t:Int):=by rw[R i K Y,hie]
    refine⟨i+(1+z),by rw[i5,e1];exact V.1,λ j M=>?_⟩;rcases uD j i with F|F
    ·rw[R j xA (λ j' hj'=>Y j' xA),q j xA (Y j F)];exact hk.2 j xA
    ·rw[show j=i+(j-i) by omega,i5,e1];exact V.2 (j-i) xA
   ·have Y:∀i,i<=k->az W u i≠(t:Int):=λ i L A=>J ⟨i,L,A⟩
    refine⟨k,?_,λ j M=>?_⟩
    ·rw[R k (uI _) (λ j M=>Y j xA),q k (uI _) (Y k (uI _))];exact hk.1
    ·rw[R j xA (λ j' hj'=>Y j' xA),q j xA (Y j xA)];exact hk.2 j M
end partV
section partX
variable {ST:Nat->List Stp}{S:Nat->Prop}{n:Nat}{p:Nat->Int}
structure InvQ (ST:Nat->List Stp)(n:Nat)(σ:LS)(rest:Int->Prop)(ex:Nat->Prop):Prop where
 lenW:σ.1.length=n
 lenB:σ.2.1.length=n
 wait:∀v:Nat,v<n->bAt σ.2.1 v=true->(v:Int)∈σ.2.2\/rest v
 sat:∀v:Nat,v<n->Rch σ.1 v->¬ex v->(∀s∈ST v,lgW σ.1 v+s.2.1<=(wAt σ.1 s.1).1)\/(v:Int)∈σ.2.2\/rest v
 pr:∀x,x∈σ.2.2\/rest x->0<=x/\x<(n:Int)
theorem B1 {B:List Bool}{u v:Int}{x:Bool}(Y:0<=u)(X:0<=v)(Z:v.toNat<B.length):bAt (B.set v.toNat x) u=if u=v then x else bAt B u:=by
 rw[bAt,qF];by_cases h:u=v
 ·subst h;rw[if_pos rfl,if_pos Z,if_pos rfl];rfl
 ·rw[if_neg xA,if_neg h];rfl
theorem QI {σ:LS}{rest:Int->Prop}{v:Nat}{s:Stp}(hg:fh n ST)(h:InvQ ST n σ rest (·=v))(q:s∈ST v):
  InvQ ST n (cw v σ s) rest (·=v)/\(∀u:Nat,lgW σ.1 u<=lgW (cw v σ s).1 u)/\lgW (cw v σ s).1 v=lgW σ.1 v/\lgW σ.1 v+s.2.1<=(wAt (cw v σ s).1 s.1).1:=by
 obtain⟨hvn,T,B,b,A,z⟩:=hg v s q;by_cases K:(wAt σ.1 s.1).1<(wAt σ.1 v).1+s.2.1
 ·have R:∀u:Nat,wAt (σ.1.set s.1.toNat ((wAt σ.1 v).1+s.2.1,v,s,false)) (u:Int)=if(u:Int)=s.1 then((wAt σ.1 v).1+s.2.1,(v:Int),s,false)else wAt σ.1 u:=
   λ u=>n7 xA T (by rw[h.lenW];omega)
  have Q:wAt (σ.1.set s.1.toNat ((wAt σ.1 v).1+s.2.1,v,s,false)) s.1=((wAt σ.1 v).1+s.2.1,(v:Int),s,false):=by
   rw[n7 T T (by rw[h.lenW];omega),if_pos rfl]
  have Z:∀u:Nat,lgW σ.1 u<=lgW (σ.1.set s.1.toNat ((wAt σ.1 v).1+s.2.1,v,s,false)) u:=λ u=>by
   rw[lgW,lgW,R];split
   ·rename_i C;rw[C];dsimp only;omega
   ·exact qR _
  have M:∀x:Int,0<=x->(wAt σ.1 x).1<=(wAt (σ.1.set s.1.toNat ((wAt σ.1 v).1+s.2.1,v,s,false)) x).1:=λ x O=>by
   have:=Z x.toNat
   rwa [lgW,lgW,show((x.toNat:Nat):Int)=x by omega]at this
  have F:lgW (σ.1.set s.1.toNat ((wAt σ.1 v).1+s.2.1,v,s,false)) v=lgW σ.1 v:=by rw[lgW,lgW,R,if_neg xA]
  have L:∀u:Nat,u<n->Rch (σ.1.set s.1.toNat ((wAt σ.1 v).1+s.2.1,v,s,false)) u->¬u=v->(u:Int)≠s.1->
    (∀I∈ST u,lgW (σ.1.set s.1.toNat ((wAt σ.1 v).1+s.2.1,v,s,false)) u+I.2.1<=(wAt (σ.1.set s.1.toNat ((wAt σ.1 v).1+s.2.1,v,s,false)) I.1).1)\/(u:Int)∈σ.2.2\/rest u:=by
   intro u J V U Y;have e:lgW (σ.1.set s.1.toNat ((wAt σ.1 v).1+s.2.1,v,s,false)) u=lgW σ.1 u:=by rw[lgW,lgW,R,if_neg Y]
   rw[Rch,e]at V;rcases h.sat u J V U with X|X
   ·left
    intro I G;have:=X I G;have:=M I.1 (hg u I G).2.1;rw[e];omega
   ·exact .inr X
  rcases E:bAt σ.2.1 s.1 with _|_
  ·have H:cw v σ s=(σ.1.set s.1.toNat ((wAt σ.1 v).1+s.2.1,v,s,false),σ.2.1.set s.1.toNat true,σ.2.2++[s.1]):=by
    rw[cw,if_pos K,if_neg (by rw[E];exact kY)]
   rw[H];refine⟨⟨by simp[h.lenW],by simp[h.lenB],λ u J N=>?_,λ u J V U=>?_,λ x O=>?_⟩,Z,F,by dsimp only;rw[Q];exact qR _⟩
   ·dsimp only at N|-;rw[B1 xA T (by rw[h.lenB];omega)]at N;split at N
    ·rename_i C;left;rw[C];simp
    ·rcases h.wait u J N with X|X
     ·left;exact Cr _ X
     ·exact .inr X
   ·by_cases Y:(u:Int)=s.1
    ·right;left;rw[Y];simp
    ·rcases L u J V U Y with X|X|X
     ·exact .inl X
     ·exact .inr (.inl (Cr _ X))
     ·exact .inr (.inr X)
   ·rcases O with O|O
    ·rcases yP.1 O with O|O
     ·exact h.pr x (.inl O)
     ·rw[uX.1 O];exact⟨T,B⟩
    ·exact h.pr x (.inr O)
  ·have H:cw v σ s=(σ.1.set s.1.toNat ((wAt σ.1 v).1+s.2.1,v,s,false),σ.2.1,σ.2.2):=by rw[cw,if_pos K,if_pos E]
   rw[H];refine⟨⟨by simp[h.lenW],h.lenB,h.wait,λ u J V U=>?_,h.pr⟩,Z,F,by dsimp only;rw[Q];exact qR _⟩;by_cases Y:(u:Int)=s.1
   ·right
    have:=h.wait s.1.toNat xA (by rw[show((s.1.toNat:Nat):Int)=s.1 by omega];exact E)
    rwa [Y,show s.1=((s.1.toNat:Nat):Int) by omega]
   ·exact L u J V U Y
 ·have H:cw v σ s=σ:=by rw[cw,if_neg K]
  rw[H];exact⟨h,λ u=>qR _,rfl,by simp only[lgW];omega⟩
theorem MI {σ:LS}{rest:Int->Prop}{v:Nat}(hg:fh n ST)(B:v<n)(h:InvQ ST n σ (λ x=>x=v\/rest x) (λ _=>False)):
  ∀i,i<=(ST v).length->InvQ ST n (inner (ST v) v σ i) rest (·=v)/\(∀u:Nat,lgW σ.1 u<=lgW (inner (ST v) v σ i).1 u)/\lgW (inner (ST v) v σ i).1 v=lgW σ.1 v/\
   ∀s∈(ST v).take i,lgW σ.1 v+s.2.1<=(wAt (inner (ST v) v σ i).1 s.1).1:=by
 intro i
 induction i with
 |zero=>
  intro _;refine⟨⟨h.lenW,by simp[inner,h.lenB],λ u O V=>?_,λ u O J X=>?_,λ x U=>?_⟩,λ u=>qR _,rfl,xB⟩
  ·simp only[inner,yQ,Bh]at V|-;rw[B1 xA xA (by rw[h.lenB];omega)]at V;split at V
   ·cases V
   ·rename_i X;rcases h.wait u O V with Y|Y|Y
    ·exact .inl Y
    ·exact absurd Y X
    ·exact .inr Y
  ·rcases h.sat u O J (λ h=>h)with Y|Y|Y|Y
   ·exact .inl Y
   ·exact .inr (.inl Y)
   ·exact absurd xA X
   ·exact .inr (.inr Y)
  ·rcases U with U|U
   ·exact h.pr x (.inl U)
   ·exact h.pr x (.inr (.inr U))
 |succ i I=>
  intro C;obtain⟨Y,L,N,K⟩:=I xA;obtain⟨s,R⟩:=ak (show i<(ST v).length by omega);have Q:=uA R;obtain⟨H,M,G,F⟩:=QI hg Y Q;rw[rB R];refine⟨H,λ u=>zD (L u) (M u),G.trans N,λ T Z=>?_⟩;rw[aM R]at Z;rcases yP.1 Z with Z|Z
  ·have e:=K T Z;have E:=(hg v T (gT Z)).2.1;have:=M T.1.toNat;rw[lgW,lgW,show((T.1.toNat:Nat):Int)=T.1 by omega]at this;omega
  ·rw[uX.1 Z,<-N];exact F
theorem MH {σ:LS}{rest:Int->Prop}{v:Nat}(hg:fh n ST)(O:v<n)(h:InvQ ST n σ (λ x=>x=v\/rest x) (λ _=>False)):
  InvQ ST n (inner (ST v) v σ (ST v).length) rest (λ _=>False)/\(∀u:Nat,lgW σ.1 u<=lgW (inner (ST v) v σ (ST v).length).1 u)/\
   ∀s∈ST v,lgW σ.1 v+s.2.1<=(wAt (inner (ST v) v σ (ST v).length).1 s.1).1:=by
 obtain⟨Z,V,U,X⟩:=MI hg O h (ST v).length (uI _);rw[uE (uI _)]at X;refine⟨⟨Z.lenW,Z.lenB,Z.wait,λ u Q T _=>?_,Z.pr⟩,V,X⟩;by_cases Y:u=v
 ·subst Y;left;intro s R;rw[U];exact X s R
 ·exact Z.sat u Q T Y
theorem FG {σ:LS}(hg:fh n ST)(h:InvQ ST n σ (λ _=>False) (λ _=>False)):
  ∀j,j<=σ.2.2.length->InvQ ST n (c8 ST σ j) (λ x=>x∈σ.2.2.drop j) (λ _=>False)/\(∀u:Nat,lgW σ.1 u<=lgW (c8 ST σ j).1 u)/\
   ∀x∈σ.2.2.take j,∀s∈ST x.toNat,lgW σ.1 x.toNat+s.2.1<=(wAt (c8 ST σ j).1 s.1).1:=by
 intro j
 induction j with
 |zero=>
  intro _;refine⟨⟨h.lenW,h.lenB,λ u R M=>?_,λ u R L U=>?_,λ x X=>?_⟩,λ u=>qR _,xB⟩
  ·rcases h.wait u R M with Z|Z
   ·right;simpa using Z
   ·exact Z.elim
  ·rcases h.sat u R L U with Z|Z|Z
   ·exact .inl Z
   ·right;right;simpa using Z
   ·exact Z.elim
  ·rcases X with X|X
   ·simp[c8]at X
   ·exact h.pr x (.inl (by simpa using X))
 |succ j F=>
  intro C;obtain⟨Z,I,H⟩:=F xA;obtain⟨x,X⟩:=ak (show j<σ.2.2.length by omega);have G:=h.pr x (.inl (uA X));have V:σ.2.2.drop j=x::σ.2.2.drop (j+1):=by
   rw[qV xA]
   congr 1
   rw[uT xA]at X;exact Ct X
  have N:InvQ ST n (c8 ST σ j) (λ y=>y=((x.toNat:Nat):Int)\/y∈σ.2.2.drop (j+1)) (λ _=>False):=by
   have T:∀y,y∈σ.2.2.drop j↔(y=((x.toNat:Nat):Int)\/y∈σ.2.2.drop (j+1)):=λ y=>by
    rw[V,yI,show((x.toNat:Nat):Int)=x by omega]
   refine⟨Z.lenW,Z.lenB,λ u R M=>?_,λ u R L U=>?_,λ y Y=>?_⟩
   ·rcases Z.wait u R M with h|h
    ·exact .inl h
    ·exact .inr ((T _).1 h)
   ·rcases Z.sat u R L U with h|h|h
    ·exact .inl h
    ·exact .inr (.inl h)
    ·exact .inr (.inr ((T _).1 h))
   ·rcases Y with Y|Y
    ·exact Z.pr y (.inl Y)
    ·exact Z.pr y (.inr ((T _).2 Y))
  obtain⟨K,O,J⟩:=MH hg (show x.toNat<n by omega) N;rw[rN X];rw[show((x.toNat:Nat):Int)=x by omega]at K O J;refine⟨K,λ u=>zD (I u) (O u),λ y Y s Q=>?_⟩;rw[aM X]at Y;rcases yP.1 Y with Y|Y
  ·have e:=H y Y s Q;have E:=(hg y.toNat s Q).2.1;have:=O s.1.toNat;rw[lgW,lgW,show((s.1.toNat:Nat):Int)=s.1 by omega]at this;omega
  ·rw[uX.1 Y]at Q|-;have e:=J s Q;have:=I x.toNat;rw[lgW,lgW,show((x.toNat:Nat):Int)=x by omega]at this;rw[lgW,show((x.toNat:Nat):Int)=x by omega];rw[lgW,show((x.toNat:Nat):Int)=x by omega]at e;omega
theorem wM {σ:LS}(hg:fh n ST)(h:InvQ ST n σ (λ _=>False) (λ _=>False)):
  ∀k,InvQ ST n (aY ST σ k) (λ _=>False) (λ _=>False)/\∀u:Nat,lgW σ.1 u<=lgW (aY ST σ k).1 u:=by
 intro k
 induction k with
 |zero=>exact⟨h,λ u=>qR _⟩
 |succ k U=>
  obtain⟨Z,T,_⟩:=FG hg U.1 _ (uI _);refine⟨⟨Z.lenW,Z.lenB,λ u V R=>?_,λ u V Q X=>?_,λ x Y=>?_⟩,λ u=>zD (U.2 u) (T u)⟩
  ·rcases Z.wait u V R with h|h
   ·exact .inl h
   ·simp at h
  ·rcases Z.sat u V Q X with h|h|h
   ·exact .inl h
   ·exact .inr (.inl h)
   ·simp at h
  ·rcases Y with Y|Y
   ·exact Z.pr x (.inl Y)
   ·exact Y.elim
theorem uv {n:Nat}{st:List Int}(hst:∀x∈st,0<=x/\x<(n:Int)):∀j,j<=st.length->∀v:Nat,v<n->wAt (iJ n st j) v=if(v:Int)∈st.take j then f9 else ik:=by
 intro j
 induction j with
 |zero=>intro _ v Z;simp[iJ,wAt,Z]
 |succ j V=>
  intro U v Z;obtain⟨x,Y⟩:=ak (show j<st.length by omega);have X:=hst x (uA Y);rw[H1 Y,n7 xA X.1 (by rw[qf];omega),V xA v Z,aM Y];by_cases h:(v:Int)=x
  ·rw[if_pos h,if_pos (by rw[h];simp)]
  ·rw[if_neg h];simp[h]
theorem y7 {st:List Int}(hst:∀x∈st,0<=x/\x<(n:Int)):InvQ ST n (aU n st) (λ _=>False) (λ _=>False):=by
 refine⟨qf _ _ _,by simp[aU],λ v X V=>?_,λ v X Z _=>?_,λ x Y=>?_⟩
 ·simp[aU,bAt,X]at V
 ·right;left
  have:=uv hst st.length (uI _) v X;rw[Rch,lgW]at Z;simp only[aU]at Z|-;rw[this]at Z;split at Z
  ·rename_i h;rwa [uE (uI _)]at h
  ·exact absurd rfl Z
 ·rcases Y with Y|Y
  ·exact hst x Y
  ·exact Y.elim
theorem LY {q:Nat->Bool}:∀{m:Nat},dK q m=none->∀j,j<m->q j=false:=by
 intro m
 induction m with
 |zero=>intro _ j X;omega
 |succ m U=>
  intro h j X;rw[dK]at h;cases Z:dK q m with
  |some i=>rw[Z]at h;simp at h
  |none=>
   rw[Z]at h;rcases uD j m with Y|Y
   ·exact U Z j Y
   ·have:j=m:=xA;subst this;cases V:q j with
    |false=>rfl
    |true=>simp[V]at h
theorem NJ {st:List Int}(hg:fh n ST)(hst:∀x∈st,0<=x/\x<(n:Int)){W:List Way}(h:eP n ST st=some W):
  W.length=n/\(∀v:Nat,v<n->Rch W v->∀s∈ST v,lgW W v+s.2.1<=(wAt W s.1).1)/\∀v:Nat,v<n->(v:Int)∈st->0<=lgW W v:=by
 rw[eP]at h;cases X:pC n ST st with
 |none=>rw[X]at h;cases h
 |some k=>
  rw[X]at h;simp only[qB,yM]at h;subst h;obtain⟨_,U,_⟩:=wn X;have Y:=wM hg (y7 (ST:=ST) hst) k;have R:(aY ST (aU n st) k).2.2=[]:=Ap.1 U;refine⟨Y.1.lenW,λ v V Q=>?_,λ v V T=>?_⟩
  ·rcases Y.1.sat v V Q (λ h=>h)with Z|Z|Z
   ·exact Z
   ·rw[R]at Z;simp at Z
   ·exact Z.elim
  ·have:=Y.2 v;have e:=uv hst st.length (uI _) v V;rw[uE (uI _),if_pos T]at e;have:lgW (aU n st).1 v=0:=by rw[lgW];simp only[aU];rw[e];rfl
   omega
end partX
section partY
variable {ST:Nat->List Stp}{S:Nat->Prop}{n:Nat}{p:Nat->Int}
theorem wK {c Y:Nat}{W:List Way}(h:InvW ST S n c W)(U:c<=Y):InvW ST S n Y W:=
 ⟨h.len,λ v X=>by
  rcases h.sound v X with Z|⟨Z,j,T,V⟩
  ·exact .inl Z
  ·exact .inr ⟨Z,j,xA,V⟩,h.starts,h.par,h.chain⟩
theorem yf {c:Nat}{W:List Way}(hg:fh n ST)(h:InvW ST S n c W){v:Nat}(Y:v<n)(Z:Rch W v):-(16777216*(c:Int))<=lgW W v:=by
 obtain⟨j,V,X⟩:=ue h Y Z;have:=sG hg X;omega
theorem G0 {c:Nat}{σ:LS}(hg:fh n ST)(L:c<=34359738368)(h:InvW ST S n c σ.1){v:Nat}{s:Stp}(N:v<n)(T:Rch σ.1 v)(R:s∈ST v):
  ∀u,u<n->Rch σ.1 u->Rch (cw v σ s).1 u:=by
 intro u K Z;obtain⟨M,Y,Q,O,X,V⟩:=hg v s R;rw[cw];split
 ·rename_i U;rw[Rch,lgW];dsimp only;rw[n7 xA Y (by rw[h.len];omega)];split
  ·have:=yf hg h N T;rw[lgW]at this;dsimp only;omega
  ·exact Z
 ·exact Z
theorem QH {c:Nat}{σ:LS}(hg:fh n ST)(E:c+1<=34359738368)(h:InvW ST S n c σ.1){v:Nat}{s:Stp}(J:v<n)(L:Rch σ.1 v)(K:s∈ST v)
  (O:∀x∈σ.2.2,0<=x/\x<(n:Int)/\Rch σ.1 x.toNat):∀x∈(cw v σ s).2.2,0<=x/\x<(n:Int)/\Rch (cw v σ s).1 x.toNat:=by
 intro x Z;have Y:=G0 hg xA h J L K;obtain⟨F,U,N,G,I,H⟩:=hg v s K;by_cases X:(wAt σ.1 s.1).1<(wAt σ.1 v).1+s.2.1
 ·rcases M:bAt σ.2.1 s.1 with _|_
  ·have V:cw v σ s=(σ.1.set s.1.toNat ((wAt σ.1 v).1+s.2.1,v,s,false),σ.2.1.set s.1.toNat true,σ.2.2++[s.1]):=by
    rw[cw,if_pos X,if_neg (by rw[M];exact kY)]
   rw[V]at Z Y|-;rcases yP.1 Z with Z|Z
   ·obtain⟨T,R,Q⟩:=O x Z;exact⟨T,R,Y _ xA Q⟩
   ·rw[uX.1 Z];refine⟨U,N,?_⟩;rw[Rch,lgW];dsimp only;rw[n7 xA U (by rw[h.len];omega),if_pos xA];have:=yf hg h J L;rw[lgW]at this;dsimp only;omega
  ·have V:cw v σ s=(σ.1.set s.1.toNat ((wAt σ.1 v).1+s.2.1,v,s,false),σ.2.1,σ.2.2):=by rw[cw,if_pos X,if_pos M]
   rw[V]at Z Y|-;obtain⟨T,R,Q⟩:=O x Z;exact⟨T,R,Y _ xA Q⟩
 ·have V:cw v σ s=σ:=by rw[cw,if_neg X]
  rw[V]at Z|-;exact O x Z
theorem MJ {c:Nat}{σ:LS}(hp:Pot ST p)(hg:fh n ST)(C:c+2<=34359738368)(h:InvW ST S n c σ.1){v:Nat}(R:v<n)(L:Rch σ.1 v)(F:∀x∈σ.2.2,0<=x/\x<(n:Int)/\Rch σ.1 x.toNat):
  ∀i,i<=(ST v).length->InvW ST S n (c+1) (inner (ST v) v σ i).1/\(∀u,u<n->Rch σ.1 u->Rch (inner (ST v) v σ i).1 u)/\(∀x∈(inner (ST v) v σ i).2.2,0<=x/\x<(n:Int)/\Rch (inner (ST v) v σ i).1 x.toNat)/\
   lgW (inner (ST v) v σ i).1 v=lgW σ.1 v:=by
 intro i
 induction i with
 |zero=>intro _;exact⟨wK h xA,λ u _ Q=>Q,F,rfl⟩
 |succ i E=>
  intro B;obtain⟨V,N,I,M⟩:=E xA;obtain⟨s,K⟩:=ak (show i<(ST v).length by omega);have Z:=uA K;have X:=N v R L;have H:=hg v s Z;rw[rB K];have T:=G0 hg xA V R X Z;have U:=QH hg xA V R X Z I;refine⟨?_,λ u Q O=>T u Q (N u Q O),U,?_⟩
  ·obtain⟨j,G,J⟩:=ue h R L;rw[<-M]at J;by_cases Y:(wAt (inner (ST v) v σ i).1 s.1).1<(wAt (inner (ST v) v σ i).1 v).1+s.2.1
   ·have:=QE hp hg xA V R X ⟨j,G,J⟩ Z Y;rw[cw,if_pos Y];exact this
   ·rw[cw,if_neg Y];exact V
  ·rw[<-M,cw];split
   ·rw[lgW,lgW];dsimp only;rw[n7 xA H.2.1 (by rw[V.len];omega),if_neg xA]
   ·rfl
theorem NT {c:Nat}{σ:LS}(hp:Pot ST p)(hg:fh n ST)(I:c+σ.2.2.length+2<=34359738368)(h:InvW ST S n c σ.1)(M:∀x∈σ.2.2,0<=x/\x<(n:Int)/\Rch σ.1 x.toNat):
  ∀j,j<=σ.2.2.length->InvW ST S n (c+j) (c8 ST σ j).1/\(∀u,u<n->Rch σ.1 u->Rch (c8 ST σ j).1 u)/\(∀x∈(c8 ST σ j).2.2,0<=x/\x<(n:Int)/\Rch (c8 ST σ j).1 x.toNat):=by
 intro j
 induction j with
 |zero=>intro _;exact⟨h,λ u _ Z=>Z,by simp[c8]⟩
 |succ j J=>
  intro H;obtain⟨O,R,N⟩:=J xA;obtain⟨x,Q⟩:=ak (show j<σ.2.2.length by omega);obtain⟨L,K,X⟩:=M x (uA Q);obtain⟨V,U,T,_⟩:=MJ hp hg xA O (v:=x.toNat) xA (R _ xA X) N _ (uI _);rw[rN Q];rw[show((x.toNat:Nat):Int)=x by omega]at V U T;exact⟨by rw[<-zW];exact V,λ u Z Y=>U u Z (R u Z Y),T⟩
theorem SX {st:List Int}(hst:∀x∈st,0<=x/\x<(n:Int)):InvW ST (λ v=>(v:Int)∈st) n 0 (aU n st).1/\∀x∈(aU n st).2.2,0<=x/\x<(n:Int)/\Rch (aU n st).1 x.toNat:=by
 have T:=uv hst st.length (uI _);rw[uE (uI _)]at T;have Y:∀v:Nat,v<n->(v:Int)∈st->wAt (aU n st).1 v=f9:=λ v h Z=>by simp only[aU];rw[T v h,if_pos Z]
 have V:∀v:Nat,v<n->¬(v:Int)∈st->wAt (aU n st).1 v=ik:=λ v h Z=>by simp only[aU];rw[T v h,if_neg Z]
 have U:∀v:Nat,v<n->(v:Int)∈st->Rch (aU n st).1 v:=λ v h Z=>by rw[Rch,lgW,Y v h Z];simp[f9]
 have X:∀v:Nat,v<n->Rch (aU n st).1 v->(v:Int)∈st:=λ v h R=>by
  by_cases Z:(v:Int)∈st
  ·exact Z
  ·rw[Rch,lgW,V v h Z]at R;exact absurd rfl R
 refine⟨⟨qf _ _ _,λ v h=>?_,λ v h=>?_,λ v h R=>?_,λ v h R=>?_⟩,λ x O=>?_⟩
 ·by_cases Z:(v:Int)∈st
  ·right
   refine⟨U v h Z,0,uI _,?_⟩;rw[lgW,Y v h Z];exact .start v Z
  ·left;exact V v h Z
 ·have:=hst _ h;refine⟨xA,?_⟩;rw[lgW,Y v xA h];simp[f9]
 ·have Z:=X v h R;exact .inl ⟨Y v h Z,Z⟩
 ·have Z:=X v h R;refine⟨0,?_,λ j N=>xA⟩;show(wAt (aU n st).1 (v:Int)).2.2.2=true;rw[Y v h Z];rfl
 ·have Q:=hst x O;exact⟨Q.1,Q.2,U x.toNat xA (by rw[show((x.toNat:Nat):Int)=x by omega];exact O)⟩
theorem Mg (hg:fh n ST):∀v:Nat,v<n->og n v (ST v):=λ v _ s h=>by
 have:=hg v s h;exact⟨this.2.1,this.2.2.1,this.2.2.2.1,this.2.2.2.2.1,this.2.2.2.2.2⟩
section search
variable {st:List Int}(hp:Pot ST p)(hg:fh n ST)(hn:n<=2048)(hst:∀x∈st,0<=x/\x<(n:Int))(hsl:st.length<=n)
include hp hg hn hst hsl
theorem wN :∀k,k<=n+1->InvW ST (λ v=>(v:Int)∈st) n (4198400*k) (aY ST (aU n st) k).1/\∀x∈(aY ST (aU n st) k).2.2,0<=x/\x<(n:Int)/\Rch (aY ST (aU n st) k).1 x.toNat:=by
 intro k
 induction k with
 |zero=>intro _;exact SX hst
 |succ k V=>
  intro U;obtain⟨h,X⟩:=V xA;have T:=(EW hn (H2 hst) hsl (Mg hg) k xA).2;have:n*(k+1)<=2048*2050:=jW hn xA;obtain⟨Z,_,Y⟩:=NT hp hg xA h X _ (uI _);exact⟨wK Z xA,Y⟩
theorem MV :∀k,k<=n+1->∀j v d,j<=k->Wk ST (λ v=>(v:Int)∈st) j v d->Rch (aY ST (aU n st) k).1 v/\d<=lgW (aY ST (aU n st) k).1 v:=by
 have T:∀v:Nat,(v:Int)∈st->v<n:=λ v M=>by have:=hst _ M;omega
 intro k
 induction k with
 |zero=>
  intro _ j v d C Z;have R:j=0:=xA;subst R;cases Z with
  |start _ h=>
   have M:=T v h;have e:=uv hst st.length (uI _) v M;rw[uE (uI _),if_pos h]at e;rw[Rch,lgW];simp only[aY,aU];rw[e];simp[f9]
 |succ k H=>
  intro hk j v d C Z;have z:=qp hg T Z;have E:=sG hg Z;obtain⟨b,hw2⟩:=wN hp hg hn hst hsl k xA;have L:=(wM hg (y7 (ST:=ST) hst) k).1;obtain⟨q1,q,G⟩:=FG hg L _ (uI _);have U:d<=lgW (aY ST (aU n st) (k+1)).1 v->Rch (aY ST (aU n st) (k+1)).1 v/\d<=lgW (aY ST (aU n st) (k+1)).1 v:=λ h=>
   ⟨by rw[Rch];omega,h⟩
  rcases uD k j with X|X
  ·have Q:j=k+1:=xA;subst Q;cases Z with
   |step _ u F s K O=>
    have N:=qp hg T K;have A:=(hg u s O).2.1;obtain⟨J,I⟩:=H xA k u F (uI _) K;refine U ?_;have e:((s.1.toNat:Nat):Int)=s.1:=xA;rw[lgW,e];have B:=q s.1.toNat;rw[lgW,lgW,e]at B;have V:aY ST (aU n st) (k+1)=c8 ST (aY ST (aU n st) k) (aY ST (aU n st) k).2.2.length:=rfl;rw[V];rcases L.sat u N J (λ h=>h)with Y|Y|Y
    ·have:=Y s O;omega
    ·rw[uE (uI _)]at G;have:=G u Y s (by rw[uK];exact O);rw[uK]at this;omega
    ·exact Y.elim
  ·obtain⟨J,I⟩:=H xA j v d X Z;exact U (zD I (q v))
theorem HC :∃W,eP n ST st=some W/\InvW ST (λ v=>(v:Int)∈st) n 8606720000 W/\(∀v d,Opt ST (λ v=>(v:Int)∈st) v d->Rch W v/\lgW W v=d)/\
  (∀v:Nat,v<n->Rch W v->Opt ST (λ v=>(v:Int)∈st) v (lgW W v)/\∀s∈ST v,lgW W v+s.2.1<=(wAt W s.1).1):=by
 have J:∀v:Nat,(v:Int)∈st->v<n:=λ v Z=>by have:=hst _ Z;omega
 obtain⟨Q,A⟩:∃Q:Int,∀v:Nat,(v:Int)∈st->Q<=p v:=by
  have:∀m:Nat,∃Q:Int,∀v:Nat,v<m->Q<=p v:=by
   intro m
   induction m with
   |zero=>exact⟨0,λ v Z=>xA⟩
   |succ m K=>
    obtain⟨Q,h⟩:=K;refine⟨min Q (p m),λ v Z=>?_⟩;rcases uD v m with V|V
    ·have:=h v V;omega
    ·have:v=m:=xA;subst this;omega
  obtain⟨Q,h⟩:=this n;exact⟨Q,λ v Z=>h v (J v Z)⟩
 have N:∃k,pC n ST st=some k:=by
  cases he:pC n ST st with
  |some k=>exact⟨k,rfl⟩
  |none=>
   exfalso;have T:=LY he;rcases qO n with h0|hpos
   ·have V:=T 0 xA;have:st=[]:=by
     cases st with
     |nil=>rfl
     |cons x l=>have:=hst x xB;omega
    subst this;simp[aY,aU]at V
   ·obtain⟨k,C⟩:∃k,n=k+1:=⟨n-1,xA⟩;have O:=MV hp hg hn hst hsl k xA;obtain⟨z,q⟩:=wN hp hg hn hst hsl k xA;have hq:=(wM hg (y7 (ST:=ST) hst) k).1;have G:∀v d,Opt ST (λ v=>(v:Int)∈st) v d->d<=lgW (aY ST (aU n st) k).1 v:=λ v d h=>by
     obtain⟨i,hi,Y⟩:=opt_short hg J h;exact(O i v d xA Y).2
    have F:∀v:Nat,v<n->Rch (aY ST (aU n st) k).1 v->∀s∈ST v,lgW (aY ST (aU n st) k).1 v+s.2.1<=(wAt (aY ST (aU n st) k).1 s.1).1:=by
     intro v Z L s R;obtain⟨j,_,Y⟩:=ue z Z L;have V:=Wk.step j v _ s Y R;obtain⟨d',I⟩:=xG hp A V;have:=G _ _ I;have h2:=I.2 _ _ V;rw[lgW,show((s.1.toNat:Nat):Int)=s.1 by have:=(hg v s R).2.1;omega]at this;omega
    have U:∀j,j<=(aY ST (aU n st) k).2.2.length->(c8 ST (aY ST (aU n st) k) j).1=(aY ST (aU n st) k).1/\(c8 ST (aY ST (aU n st) k) j).2.2=[]:=by
     intro j
     induction j with
     |zero=>intro _;exact⟨rfl,rfl⟩
     |succ j K=>
      intro hj;obtain⟨e1,e2⟩:=K xA;obtain⟨x,hx⟩:=ak (show j<(aY ST (aU n st) k).2.2.length by omega);obtain⟨hx0,hxn,b⟩:=q x (uA hx);rw[rN hx];have B:∀i,i<=(ST x.toNat).length->(inner (ST x.toNat) x (c8 ST (aY ST (aU n st) k) j) i).1=(aY ST (aU n st) k).1/\(inner (ST x.toNat) x (c8 ST (aY ST (aU n st) k) j) i).2.2=[]:=by
       intro i
       induction i with
       |zero=>intro _;exact⟨e1,e2⟩
       |succ i ih2=>
        intro hi;obtain⟨f1,f2⟩:=ih2 xA;obtain⟨s,R⟩:=ak (show i<(ST x.toNat).length by omega);have:=F x.toNat xA b s (uA R);rw[lgW,show((x.toNat:Nat):Int)=x by omega]at this;rw[rB R,cw,f1,if_neg xA];exact⟨f1,f2⟩
      exact B _ (uI _)
    have V:=T n xA;have:(aY ST (aU n st) n).2.2=[]:=by
     subst C;exact(U _ (uI _)).2
    rw[this]at V;cases V
 obtain⟨k,C⟩:=N;have hW:eP n ST st=some (aY ST (aU n st) k).1:=by rw[eP,C];rfl
 have hkn:=(wn C).1;have M:=(wN hp hg hn hst hsl k xA).1;obtain⟨l1,l2,l3⟩:=NJ hg hst hW;have X:∀j v d,Wk ST (λ v=>(v:Int)∈st) j v d->Rch (aY ST (aU n st) k).1 v/\d<=lgW (aY ST (aU n st) k).1 v:=by
  intro j v d Y
  induction Y with
  |start v h=>
   have Z:=J v h;have:=l3 v Z h;exact⟨by rw[Rch];omega,this⟩
  |step j v d s Y R K=>
   have E:=qp hg J Y;have hb:=hg v s R;have:=l2 v E K.1 s R;have hlow:=yf hg M E K.1;have e:lgW (aY ST (aU n st) k).1 s.1.toNat=(wAt (aY ST (aU n st) k).1 s.1).1:=by rw[lgW,show((s.1.toNat:Nat):Int)=s.1 by omega]
   rw[Rch,e];have hk2:(4198400*k:Nat)<=8606720000:=xA;exact⟨xA,xA⟩
 have H:∀v:Nat,v<n->Rch (aY ST (aU n st) k).1 v->Opt ST (λ v=>(v:Int)∈st) v (lgW (aY ST (aU n st) k).1 v):=λ v Z L=>by
  obtain⟨j,_,Y⟩:=ue M Z L;exact⟨⟨j,Y⟩,λ j d Y=>(X j v d Y).2⟩
 refine⟨_,hW,wK M xA,λ v d h=>?_,λ v Z L=>⟨H v Z L,l2 v Z L⟩⟩;obtain⟨j,Y⟩:=h.1;obtain⟨r1,r2⟩:=X j v d Y;exact⟨r1,tT (H v (qp hg J Y) r1) h⟩
end search
end partY
end Go.Proofs.YtjjbhjnpeenbkaaGreatDoor.Sx
