/- Least sets of arcs that break the cycles: costs of sets of vertices, and decisions arc by arc. No program in sight. -/
import Derived.Test.YtjjbhjnpeenbkaaGreatDoorPSBd
import Derived.Test.YtjjbhjnpeenbkaaGreatDoorPSStep
import Derived.Stop.Joined
import Derived.Lib.LaidTab
import Derived.Stop.LaidErr
set_option linter.unusedSimpArgs false
set_option linter.unusedVariables false
set_option maxHeartbeats 16000000
namespace Go.Cy
open Go.Bd (Part)
theorem Gf {a b:List Nat}(h:a.Perm b):a.sum=b.sum:=by
 induction h with
 |nil=>rfl
 |cons x _ X=>simp[X]
 |swap x y l=>simp;omega
 |trans _ _ Z Y=>exact Z.trans Y
theorem tP {Z:Type}{l:List Z}:l.reverse.Nodup↔l.Nodup:=by
 simp only[List.Nodup,List.pairwise_reverse,ne_comm]
def bkR (c:Nat->Nat->Nat):List Nat->Nat
 |[]=>0
 |v::P=>bkR c P+(P.map (c v)).sum
def jy (F:Nat->Nat->Bool):List Nat->Prop
 |[]=>True
 |v::P=>jy F P/\∀u,F v u=true->u∈P
def bits (n s:Nat):List Nat:=(List.range n).filter λ u=>s.testBit u
theorem mem_bits {n s u:Nat}:u∈bits n s↔u<n/\s.testBit u=true:=by simp[bits]
theorem clr :∀s,s<256->∀v,v<8->s.testBit v=true->s-2^v<s/\∀u,u<8->(s-2^v).testBit u=(s.testBit u&& !decide (u=v)):=by decide+kernel
def inB (n a b:Nat):Bool:=(List.range n).all λ u=> !a.testBit u||b.testBit u
theorem inB_iff {n a b:Nat}:inB n a b=true↔∀u,u<n->a.testBit u=true->b.testBit u=true:=by
 simp only[inB,yF,yD,gI,yL];constructor
 ·intro h u Y Z;rcases h u Y with h|h
  ·rw[h]at Z;cases Z
  ·exact h
 ·intro h u Y;cases Z:a.testBit u
  ·exact .inl rfl
  ·exact .inr (h u Y Z)
def kc (p:Nat->Bool)(g:Nat->Nat)(L:List Nat)(m:Nat):Nat:=L.foldl (λ Z v=>if p v then min Z (g v)else Z) m
theorem foldMin_le {p:Nat->Bool}{g:Nat->Nat}:∀{L:List Nat} {m:Nat},kc p g L m<=m/\∀v,v∈L->p v=true->kc p g L m<=g v
 |[],m=>⟨uI _,xB⟩
 |w::L,m=>by
  have Y:= @foldMin_le p g L (if p w then min m (g w)else m);have e:kc p g (w::L) m=kc p g L (if p w then min m (g w)else m):=rfl;rw[e];have X:(if p w then min m (g w)else m)<=m:=by split<;>omega
  refine⟨xA,λ v h Z=>?_⟩;rcases yI.1 h with rfl|h
  ·have:(if p v then min m (g v)else m)<=g v:=by rw[if_pos Z];omega
   omega
  ·exact Y.2 v h Z
theorem El {p:Nat->Bool}{g:Nat->Nat}:∀{L:List Nat} {m:Nat},kc p g L m=m\/∃v,v∈L/\p v=true/\kc p g L m=g v
 |[],m=> .inl rfl
 |w::L,m=>by
  have U:= @El p g L (if p w then min m (g w)else m);have e:kc p g (w::L) m=kc p g L (if p w then min m (g w)else m):=rfl;rw[e];rcases U with h|⟨v,Z,Y,X⟩
  ·rw[h];by_cases c:p w=true
   ·rw[if_pos c];rcases Nat.le_total m (g w)with V|V
    ·left;omega
    ·right;exact⟨w,xB,c,xA⟩
   ·rw[if_neg c];exact .inl rfl
  ·exact .inr ⟨v,uP _ Z,Y,X⟩
def atN (l:List Nat)(i:Nat):Nat:=(l[i]?).getD 0
def i9 (n:Nat)(Z:List Nat)(s v:Nat):Bool:=s.testBit v&&inB n (atN Z v) (s-2^v)
def kz (n:Nat)(c:Nat->Nat->Nat)(L:List Nat)(s v:Nat):Nat:=atN L (s-2^v)+((bits n (s-2^v)).map (c v)).sum
def costAt (n:Nat)(c:Nat->Nat->Nat)(Z L:List Nat)(s:Nat):Nat:=kc (i9 n Z s) (kz n c L s) (List.range n) 1048576
def d7 (n:Nat)(c:Nat->Nat->Nat)(Z:List Nat):Nat->List Nat
 |0=>[0]
 |k+1=>d7 n c Z k++[costAt n c Z (d7 n c Z k) (k+1)]
theorem costL_len (n:Nat)(c:Nat->Nat->Nat)(Z:List Nat)(k:Nat):(d7 n c Z k).length=k+1:=by
 induction k with
 |zero=>rfl
 |succ k Y=>simp[d7,Y]
def eY (n:Nat)(c:Nat->Nat->Nat)(Z:List Nat)(s:Nat):Nat:=atN (d7 n c Z s) s
theorem costL_at (n:Nat)(c:Nat->Nat->Nat)(Z:List Nat){k s:Nat}(h:s<=k):atN (d7 n c Z k) s=eY n c Z s:=by
 induction k with
 |zero=>obtain rfl:s=0:=xA
        rfl
 |succ k X=>
  rcases uD s (k+1)with Y|Y
  ·rw[<-X xA];simp only[atN,d7];rw[qZ (by rw[costL_len];omega)]
  ·obtain rfl:s=k+1:=xA;rfl
theorem costN_zero (n:Nat)(c:Nat->Nat->Nat)(Z:List Nat):eY n c Z 0=0:=rfl
theorem costN_succ (n:Nat)(c:Nat->Nat->Nat)(Z:List Nat)(k:Nat):eY n c Z (k+1)=costAt n c Z (d7 n c Z k) (k+1):=by
 simp only[eY,atN,d7];rw[qL (by rw[costL_len];omega),costL_len];simp
def jg (n:Nat)(c:Nat->Nat->Nat)(Z:List Nat):Nat:=eY n c Z (2^n-1)
def fmF (Z:List Nat)(v u:Nat):Bool:=(atN Z v).testBit u
def j0 (n s:Nat)(R:List Nat):Prop:=R.Nodup/\∀u,u∈R↔u<n/\s.testBit u=true
theorem pow_le8 {n:Nat}(h:n<=8):2^n<=256:=zO (n:=2) xC h
theorem CJ {n s:Nat}{R:List Nat}(h:j0 n s R):R.Perm (bits n s):=
 (Bi h.1 (List.nodup_range.filter _)).2 λ u=>(h.2 u).trans mem_bits.symm
theorem j0.tail {n s v:Nat}{P:List Nat}(O:n<=8)(N:s<2^n)(h:j0 n s (v::P)):v<n/\s.testBit v=true/\s-2^v<s/\j0 n (s-2^v) P:=by
 have:=pow_le8 O;obtain⟨S,X⟩:=(h.2 v).1 xB;obtain⟨R,V⟩:=clr s xA v xA X;have U:=qI.1 h.1;refine⟨S,X,R,U.2,λ u=>?_⟩;constructor
 ·intro T;obtain⟨Y,Z⟩:=(h.2 u).1 (uP _ T);refine⟨Y,?_⟩;rw[V u xA,Z];have:u≠v:=λ e=>U.1 (e▸T)
  simp[this]
 ·rintro⟨Y,Z⟩;rw[V u xA]at Z;simp only[uN,yL,qJ]at Z;rcases yI.1 ((h.2 u).2 ⟨Y,Z.1⟩)with e|Q
  ·exact(Z.2 e).elim
  ·exact Q
theorem j0.cons {n s v:Nat}{P:List Nat}(U:n<=8)(Q:s<2^n)(S:v<n)(V:s.testBit v=true)(h:j0 n (s-2^v) P):j0 n s (v::P):=by
 have:=pow_le8 U;obtain⟨R,Y⟩:=clr s xA v xA V;refine⟨qI.2 ⟨λ T=>?_,h.1⟩,λ u=>?_⟩
 ·have:=((h.2 v).1 T).2;rw[Y v xA]at this;simp at this
 ·rw[yI,h.2];constructor
  ·rintro(rfl|⟨X,Z⟩)
   ·exact⟨S,V⟩
   ·rw[Y u xA]at Z;simp only[uN]at Z;exact⟨X,Z.1⟩
  ·rintro⟨X,Z⟩;by_cases e:u=v
   ·exact .inl e
   ·right
    refine⟨X,?_⟩;rw[Y u xA,Z];simp[e]
theorem OT {n s:Nat}(X:s<2^n)(h:j0 n s []):s=0:=by
 refine Bj λ u=>?_
 rw[Cj];rcases uD u n with Z|Z
 ·cases Y:s.testBit u
  ·rfl
  ·have:=(h.2 u).2 ⟨Z,Y⟩;cases this
 ·exact zV (gS X (zO xC Z))
theorem vV {n:Nat}(U:n<=8)(c:Nat->Nat->Nat)(Z:List Nat):∀(R:List Nat) (s:Nat),s<2^n->j0 n s R->jy (fmF Z) R->eY n c Z s<=bkR c R
 |[],s,V,Y,_=>by
  rw[OT V Y,costN_zero];exact uF _
 |v::P,s,V,Y,T=>by
  obtain⟨S,Q,N,h⟩:=Y.tail U V;obtain⟨k,rfl⟩:∃k,s=k+1:=⟨s-1,xA⟩;have L:=vV U c Z P _ xA h T.1;rw[costN_succ,costAt];have X:i9 n Z (k+1) v=true:=by
   simp only[i9,Q,jZ];exact inB_iff.2 λ u M O=>((h.2 u).1 (T.2 u O)).2
  have:=(@foldMin_le (i9 n Z (k+1)) (kz n c (d7 n c Z k) (k+1)) (List.range n) 1048576).2 v (yD.2 S) X;refine gY this ?_;rw[kz,costL_at n c Z xA,bkR,<-Gf ((CJ h).map (c v))];omega
theorem vU {n:Nat}(S:n<=8)(c:Nat->Nat->Nat)(Y:List Nat)(J:∀v,atN Y v<2^n):∀(s:Nat),s<2^n->eY n c Y s<1048576->∃R,j0 n s R/\jy (fmF Y) R/\bkR c R=eY n c Y s:=by
 intro s
 induction s using Nat.strongRecOn with
 |ind s G=>
  intro I U;rcases qO s with rfl|Q
  ·exact⟨[],⟨zL,xB⟩,trivial,rfl⟩
  ·obtain⟨k,rfl⟩:∃k,s=k+1:=⟨s-1,xA⟩;rw[costN_succ,costAt]at U|-;rcases @El (i9 n Y (k+1)) (kz n c (d7 n c Y k) (k+1)) (List.range n) 1048576 with h|⟨v,M,X,L⟩
   ·omega
   ·rw[L]at U|-;have H:=yD.1 M;simp only[i9,uN]at X;have:=pow_le8 S;obtain⟨K,F⟩:=clr (k+1) xA v xA X.1;rw[kz,costL_at n c Y xA]at U|-;obtain⟨P,V,O,N⟩:=G (k+1-2^v) K xA xA;refine⟨v::P,V.cons S I H X.1,⟨O,λ u T=>?_⟩,?_⟩
    ·refine(V.2 u).2 ?_;rcases uD u n with Z|Z
     ·exact⟨Z,inB_iff.1 X.2 u Z T⟩
     ·have:=zV (gS (J v) (zO (n:=2) xC Z));rw[fmF,this]at T;cases T
    ·rw[bkR,N,Gf ((CJ V).map (c v))]
theorem rY {n:Nat}{R:List Nat}:j0 n (2^n-1) R↔Part n 0 R.reverse:=by
 constructor
 ·rintro⟨Y,V⟩;have X:∀u,u∈R↔u<n:=λ u=>by rw[V];simp[Da]
  refine⟨tP.2 Y,λ v U=>(X v).1 (qX.1 U),?_⟩;have:=(Bi Y zI).2 (λ u=>by rw[X,yD]);simpa using this.length_eq
 ·intro h;refine⟨tP.1 h.nd,λ u=>?_⟩;constructor
  ·intro Z;have:=h.lt u (qX.2 Z);simp[Da,this]
  ·rintro⟨Z,_⟩;exact qX.1 (Part.mem h Z)
theorem O6 (n:Nat):Part n 0 (List.range n):=⟨zI,λ v h=>yD.1 h,xB⟩
theorem lQ {P:List Nat}{v u:Nat}(h:u∈P):(P++[v]).idxOf u=P.idxOf u:=by rw[List.idxOf_append,if_pos h]
theorem rA {P:List Nat}{v:Nat}(h:v∉P):(P++[v]).idxOf v=P.length:=by
 rw[List.idxOf_append,if_neg h];simp
theorem vk {F:Nat->Nat->Bool}:∀{R:List Nat},R.Nodup->(jy F R↔∀v,v∈R->∀u,F v u=true->u∈R/\R.reverse.idxOf u<R.reverse.idxOf v)
 |[],_=>by simp[jy]
 |v::P,N=>by
  have U:=qI.1 N;have S:v∉P.reverse:=λ h=>U.1 (qX.1 h)
  rw[jy,vk U.2,List.reverse_cons];constructor
  ·rintro⟨Q,O⟩ w Z u X;rcases yI.1 Z with rfl|Z
   ·have Y:=O u X;refine⟨uP _ Y,?_⟩;rw[rA S,lQ (qX.2 Y)];exact jD (qX.2 Y)
   ·obtain⟨Y,V⟩:=Q w Z u X;refine⟨uP _ Y,?_⟩;rw[lQ (qX.2 Y),lQ (qX.2 Z)];exact V
  ·intro h;have T:∀w,w∈v::P->∀u,F w u=true->u∈P:=by
    intro w Z u X;obtain⟨Y,V⟩:=h w Z u X;rcases yI.1 Y with rfl|Y
    ·exfalso;rw[rA S]at V;rcases yI.1 Z with rfl|Z
     ·rw[rA S]at V;omega
     ·rw[lQ (qX.2 Z)]at V;have:=jD (qX.2 Z);omega
    ·exact Y
   refine⟨λ w Z u X=>?_,λ u X=>T v xB u X⟩;have Y:=T w (uP _ Z) u X;have V:=(h w (uP _ Z) u X).2;rw[lQ (qX.2 Y),lQ (qX.2 Z)]at V;exact⟨Y,V⟩
def cnt (l:List NA)(u v:Nat):Nat:=(l.filter λ a=> !decide (a.1=a.2)&&(decide (a.1=u)&&decide (a.2=v))).length
def ind (a:NA)(u v:Nat):Nat:=if a.1≠a.2/\a.1=u/\a.2=v then 1 else 0
theorem cnt_cons (a:NA)(l:List NA)(u v:Nat):cnt (a::l) u v=ind a u v+cnt l u v:=by
 simp only[cnt,ind,kK];by_cases c:a.1≠a.2/\a.1=u/\a.2=v
 ·rw[if_pos c,if_pos (by simp[c.1,c.2.1,c.2.2];intro h;exact c.1 (by rw[c.2.1,c.2.2,h]))];simp;omega
 ·rw[if_neg c,if_neg (by simp only[uN,yL,qJ,uG];exact c)];simp
theorem Ie (f g:Nat->Nat):∀P:List Nat,(P.map λ u=>f u+g u).sum=(P.map f).sum+(P.map g).sum
 |[]=>rfl
 |x::P=>by simp[Ie f g P];omega
theorem CK (c d:Nat->Nat->Nat):∀R,bkR (λ u v=>c u v+d u v) R=bkR c R+bkR d R
 |[]=>rfl
 |v::P=>by
  simp only[bkR,CK c d P,Ie];omega
theorem CN :∀R,bkR (λ _ _=>0) R=0
 |[]=>rfl
 |v::P=>by
  have h:∀T:List Nat,(T.map λ _=>0).sum=0:=λ T=>by
   induction T with
   |nil=>rfl
   |cons x T Z=>rw[uS,jE,Z]
  have:=h P;have e:bkR (λ _ _=>0) (v::P)=bkR (λ _ _=>0) P+(P.map λ _=>0).sum:=rfl;rw[e,CN P,this]
theorem wI (a:NA)(v:Nat):∀{P:List Nat},P.Nodup->v∉P->(P.map (ind a v)).sum=if a.1=v/\a.2∈P then 1 else 0
 |[],_,_=>xB
 |u::P,S,T=>by
  have X:=qI.1 S;rw[uS,jE,wI a v X.2 (λ h=>T (uP _ h))];have U:v≠u:=λ h=>T (by simp[h])
  simp only[ind,yI];by_cases Z:a.1=v
  ·by_cases Y:a.2=u
   ·have:a.2∉P:=Y▸X.1;rw[if_pos ⟨by rw[Z,Y];exact U,Z,Y⟩,if_neg (λ h=>this h.2),if_pos ⟨Z, .inl Y⟩]
   ·rw[if_neg (λ h=>Y h.2.2)];by_cases V:a.2∈P
    ·rw[if_pos ⟨Z,V⟩,if_pos ⟨Z, .inr V⟩]
    ·rw[if_neg (λ h=>V h.2),if_neg (λ h=>h.2.elim Y V)]
  ·rw[if_neg (λ h=>Z h.2.1),if_neg (λ h=>Z h.1),if_neg (λ h=>Z h.1)]
theorem vB (a:NA):∀{R:List Nat},R.Nodup->(a.1∉R\/a.2∉R)->bkR (ind a) R=0
 |[],_,_=>rfl
 |v::P,U,h=>by
  have Z:=qI.1 U;rw[bkR,vB a Z.2 (h.imp (λ h Y=>h (uP _ Y)) (λ h Y=>h (uP _ Y))),wI a v Z.2 Z.1,if_neg];rintro⟨X,V⟩;rcases h with h|h
  ·exact h (by simp[X])
  ·exact h (uP _ V)
theorem CM (a:NA):∀{R:List Nat},R.Nodup->a.1∈R->a.2∈R->bkR (ind a) R=if bwd R.reverse a then 1 else 0
 |[],_,h,_=>by cases h
 |v::P,N,O,U=>by
  have Z:=qI.1 N;have Q:v∉P.reverse:=λ h=>Z.1 (qX.1 h)
  rw[bkR,wI a v Z.2 Z.1,List.reverse_cons];by_cases V:a.1=v
  ·rw[vB a Z.2 (.inl (V▸Z.1))];by_cases X:a.2=v
   ·rw[if_neg (λ h=>Z.1 (X▸h.2)),if_neg (by simp[bwd,V,X])]
   ·have Y:=(yI.1 U).resolve_left X;have T:=jD (qX.2 Y);rw[if_pos ⟨V,Y⟩,if_pos (by simp only[bwd,V,uG];rw[rA Q,lQ (qX.2 Y)];exact T)]
  ·rw[if_neg (λ h=>V h.1)];have Y:=(yI.1 O).resolve_left V;by_cases X:a.2=v
   ·rw[vB a Z.2 (.inr (X▸Z.1)),if_neg];have T:=jD (qX.2 Y);simp only[bwd,X,uG];rw[rA Q,lQ (qX.2 Y)];omega
   ·have S:=(yI.1 U).resolve_left X;have e:bwd (P.reverse++[v]) a=bwd P.reverse a:=by
     simp only[bwd];rw[lQ (qX.2 Y),lQ (qX.2 S)]
    rw[CM a Z.2 Y S,e,gX]
theorem CL :∀(l:List NA) {R:List Nat},R.Nodup->(∀a,a∈l->a.1∈R/\a.2∈R)->bkR (cnt l) R=(l.filter (bwd R.reverse)).length
 |[],R,_,_=>by
  have:cnt []=λ _ _=>0:=rfl
  rw[this,CN];rfl
 |a::l,R,Z,h=>by
  have e:cnt (a::l)=λ u v=>ind a u v+cnt l u v:=funext λ u=>funext λ v=>cnt_cons a l u v
  rw[e,CK,CL l Z (λ b Y=>h b (uP _ Y)),CM a Z (h a xB).1 (h a xB).2,kK];split
  ·simp;omega
  ·simp
theorem B5 (M:List Nat)(l:List NA):(bJ M l).length=(l.filter (bwd M)).length:=by
 have:∀k,k<=l.length->((List.range k).filter (mf M l)).length=((l.take k).filter (bwd M)).length:=by
  intro k
  induction k with
  |zero=>intro _;rfl
  |succ k Y=>
   intro X;have Z:=uT (show k<l.length by omega);rw[qE,gO,uH,Y xA,List.take_add_one,Z,gO,uH];simp only[Option.toList,kK,kV,mf,Z];split<;>rfl
 have h:=this l.length (uI _);rw[yE]at h;exact h
theorem vz {n:Nat}{l:List NA}{R:List Nat}(Y:InN n l)(h:Part n 0 R.reverse):bkR (cnt l) R=(bJ R.reverse l).length:=by
 have X:∀u,u<n->u∈R:=λ u V=>qX.1 (Part.mem h V)
 rw[CL l (tP.1 h.nd) (λ a Z=>⟨X _ (Y a Z).1,X _ (Y a Z).2⟩),B5]
def dE (Z:List Nat)(v u:Nat):List Nat:=Z.set v (atN Z v|||2^u)
def lJ (n:Nat)(c:Nat->Nat->Nat)(size:Nat)(k:Nat)(a:NA)(st:List Nat×List Nat):List Nat×List Nat:=
 if a.1=a.2 then st else if jg n c (dE st.1 a.1 a.2)=size then(dE st.1 a.1 a.2,st.2++[k])else(dE st.1 a.2 a.1,st.2)
def eI (n:Nat)(c:Nat->Nat->Nat)(size:Nat)(l:List NA):Nat->List Nat×List Nat
 |0=>(List.replicate n 0,[])
 |k+1=>match l[k]? with
  |some a=>lJ n c size k a (eI n c size l k)
  |none=>eI n c size l k
def db (n:Nat)(l:List NA):Nat:=jg n (cnt l) (List.replicate n 0)
def cq (n:Nat)(l:List NA):List Nat:=(eI n (cnt l) (db n l) l l.length).2
theorem BZ {Z:List Nat}{v u w:Nat}(h:v<Z.length):atN (dE Z v u) w=if w=v then atN Z v|||2^u else atN Z w:=by
 simp only[atN,dE,qF];by_cases c:v=w
 ·subst c;simp[h]
 ·rw[if_neg c,if_neg (Ne.symm c)]
theorem L9 {Y:List Nat}{v u w x:Nat}(h:v<Y.length):fmF (dE Y v u) w x=(fmF Y w x||(decide (w=v)&&decide (x=u))):=by
 simp only[fmF,BZ h];by_cases c:w=v
 ·subst c;rw[if_pos rfl,Nat.testBit_or,Nat.testBit_two_pow];by_cases Z:x=u
  ·simp[Z]
  ·simp[Z,Ne.symm Z]
 ·simp[c]
theorem orAt_lt {n:Nat}{Z:List Nat}{v u:Nat}(X:v<Z.length)(Y:u<n)(h:∀w,atN Z w<2^n):∀w,atN (dE Z v u) w<2^n:=by
 intro w;rw[BZ X];split
 ·exact Nat.or_lt_two_pow (h v) (Bk xC Y)
 ·exact h w
structure Dec (n:Nat)(l:List NA)(k:Nat)(fm D:List Nat):Prop where
 len:fm.length=n
 lt:∀w,atN fm w<2^n
 asc:Asc D
 below:∀i,i∈D->i<k
 adm:∀R,Part n 0 R.reverse->(jy (fmF fm) R↔∀j,j<k->(j∈D↔j∈bJ R.reverse l))
 some:∃R,Part n 0 R.reverse/\jy (fmF fm) R/\bkR (cnt l) R=db n l
 first:∀R,Part n 0 R.reverse->bkR (cnt l) R=db n l->(∀j,j<k->(j∈D↔j∈bJ R.reverse l))\/∃j,j<k/\j∈D/\j∉bJ R.reverse l/\∀i,i<j->(i∈D↔i∈bJ R.reverse l)
theorem LP {Z:Type}(p:Z->Bool)(l:List Z):(l.filter p).length<=l.length:=jA _ _
theorem atN_rep (n w:Nat):atN (List.replicate n 0) w=0:=by
 simp only[atN,gA];split<;>rfl
theorem BI (n:Nat)(R:List Nat):jy (fmF (List.replicate n 0)) R:=by
 induction R with
 |nil=>trivial
 |cons v P Z=>exact⟨Z,λ u h=>by rw[fmF,atN_rep,Cj]at h;cases h⟩
theorem pow_pos' (n:Nat):0<2^n:=Nat.pow_pos xC
theorem yy {n:Nat}{l:List NA}(h:n<=8){R:List Nat}(Z:Part n 0 R.reverse):db n l<=bkR (cnt l) R:=by
 have:=pow_pos' n;exact vV h _ _ R _ xA (rY.2 Z) (BI n R)
theorem Kk {n:Nat}{l:List NA}(Z:InN n l){R:List Nat}(h:Part n 0 R.reverse):bkR (cnt l) R<=l.length:=by
 rw[vz Z h,B5];exact LP _ _
theorem HR {n:Nat}{l:List NA}(Z:n<=8)(Y:InN n l):db n l<=l.length:=by
 have h:Part n 0 (List.range n).reverse.reverse:=by rw[zM];exact O6 n
 exact gY (yy Z h) (Kk Y h)
theorem Le {n:Nat}{l:List NA}(Z:n<=8)(U:InN n l)(T:l.length<1048576):Dec n l 0 (List.replicate n 0) [] where
 len:=xB
 lt:=λ w=>by rw[atN_rep];exact pow_pos' n
 asc:=List.Pairwise.nil
 below:=xB
 adm:=λ R _=>⟨λ _ j h=>xA,λ _=>BI n R⟩
 some:=by
  have:=pow_pos' n;have:=HR Z U;obtain⟨R,Y,X,V⟩:=vU Z (cnt l) (List.replicate n 0) (λ w=>by rw[atN_rep];exact pow_pos' n) (2^n-1) xA (by have:eY n (cnt l) (List.replicate n 0) (2^n-1)=db n l:=rfl;omega);exact⟨R,rY.1 Y,X,V⟩
 first:=λ R _ _=> .inl λ j h=>xA
theorem sV {n:Nat}{Z R:List Nat}{v u:Nat}(N:v<Z.length)(M:Z.length=n)(Y:u<n)(U:Part n 0 R.reverse):jy (fmF (dE Z v u)) R↔jy (fmF Z) R/\R.reverse.idxOf u<R.reverse.idxOf v:=by
 have S:=tP.1 U.nd;have T:∀u,u<n->u∈R:=λ u Y=>qX.1 (Part.mem U Y)
 rw[vk S,vk S];simp only[L9 N,gI,uN,uG];constructor
 ·intro h;exact⟨λ w X x V=>h w X x (.inl V),(h v (T v xA) u (.inr ⟨rfl,rfl⟩)).2⟩
 ·rintro⟨Q,O⟩ w X x (V|⟨rfl,rfl⟩)
  ·exact Q w X x V
  ·exact⟨T x Y,O⟩
theorem Ld {n:Nat}{l:List NA}(E:n<=8)(S:InN n l)(hl:l.length<1048576){k:Nat}{a:NA}(z:l[k]? =some a){st:List Nat×List Nat}(h:Dec n l k st.1 st.2):
  Dec n l (k+1) (lJ n (cnt l) (db n l) k a st).1 (lJ n (cnt l) (db n l) k a st).2:=by
 obtain⟨Q,D⟩:=st;dsimp only at h;have X:=S a (uA z);have I:k∉D:=λ C=>by have:=h.below k C;omega
 have U:∀M:List Nat,k∈bJ M l↔bwd M a=true:=λ M=>by
  rw[oG];constructor
  ·rintro⟨b,F,T⟩;rw[z]at F;cases F;exact T
  ·intro T;exact⟨a,z,T⟩
 have q:=pow_pos' n;have hsz:=HR E S;simp only[lJ];by_cases c:a.1=a.2
 ·rw[if_pos c];have L:∀M:List Nat,k∉bJ M l:=λ M C=>CU ((U M).1 C) c
  have Y:∀M:List Nat,(∀j,j<k+1->(j∈D↔j∈bJ M l))↔∀j,j<k->(j∈D↔j∈bJ M l):=λ M=>by
   constructor
   ·intro h j K;exact h j xA
   ·intro h j K;rcases qP.1 K with Z|rfl
    ·exact h j Z
    ·exact⟨λ h=>(I h).elim,λ h=>(L M h).elim⟩
  exact{
   len:=h.len
   lt:=h.lt
   asc:=h.asc
   below:=λ i S=>by have:=h.below i S;omega
   adm:=λ R V=>by rw[Y];exact h.adm R V
   some:=h.some
   first:=λ R V H=>by
    rcases h.first R V H with Z|⟨j,Z,T⟩
    ·exact .inl ((Y _).2 Z)
    ·exact .inr ⟨j,xA,T⟩}
 ·rw[if_neg c];have O:a.1<Q.length:=by rw[h.len];exact X.1
  have G:a.2<Q.length:=by rw[h.len];exact X.2
  have J:∀M:List Nat,bwd M a=true↔M.idxOf a.2<M.idxOf a.1:=λ M=>by simp[bwd]
  by_cases A:jg n (cnt l) (dE Q a.1 a.2)=db n l
  ·rw[if_pos A];have Y:∀M:List Nat,(∀j,j<k+1->(j∈D++[k]↔j∈bJ M l))↔(∀j,j<k->(j∈D↔j∈bJ M l))/\bwd M a=true:=λ M=>by
    constructor
    ·intro h;refine⟨λ j K=>?_,(U M).1 ((h k xA).1 xB)⟩;rw[<-h j xA];have:j≠k:=xA;simp[this]
    ·rintro⟨Z,T⟩ j K;rcases qP.1 K with N|rfl
     ·rw[<-Z j N];have:j≠k:=xA;simp[this]
     ·exact⟨λ _=>(U M).2 T,λ _=>xB⟩
   exact{
    len:=by simp[dE,h.len]
    lt:=orAt_lt O X.2 h.lt
    asc:=gP.2 ⟨h.asc,zQ _ _,λ x hx y hy=>by rw[uX.1 hy];exact h.below x hx⟩
    below:=λ i S=>by
     rcases yP.1 S with Z|Z
     ·have:=h.below i Z;omega
     ·rw[uX.1 Z];omega
    adm:=λ R V=>by rw[Y,sV O h.len X.2 V,h.adm R V,J]
    some:=by
     obtain⟨R,Z,T,N⟩:=vU E (cnt l) (dE Q a.1 a.2) (orAt_lt O X.2 h.lt) (2^n-1) xA (by have e:eY n (cnt l) (dE Q a.1 a.2) (2^n-1)=jg n (cnt l) (dE Q a.1 a.2):=rfl;omega);exact⟨R,rY.1 Z,T,N.trans A⟩
    first:=λ R V H=>by
     rcases h.first R V H with Z|⟨j,Z,T,N,h4⟩
     ·by_cases s:bwd R.reverse a=true
      ·exact .inl ((Y _).2 ⟨Z,s⟩)
      ·refine .inr ⟨k,xA,xB,λ C=>s ((U _).1 C),λ i S=>?_⟩;rw[<-Z i S];have:i≠k:=xA;simp[this]
     ·refine .inr ⟨j,xA,by simp[T],N,λ i S=>?_⟩;rw[<-h4 i S];have:i≠k:=xA;simp[this]}
  ·rw[if_neg A];have B:∀R:List Nat,Part n 0 R.reverse->jy (fmF Q) R->bkR (cnt l) R=db n l->bwd R.reverse a=false:=by
    intro R V hA H;cases F:bwd R.reverse a
    ·rfl
    ·exfalso;have Z:=(sV O h.len X.2 V).2 ⟨hA,(J _).1 F⟩;have T:=vV E (cnt l) (dE Q a.1 a.2) R _ xA (rY.2 V) Z;have e:eY n (cnt l) (dE Q a.1 a.2) (2^n-1)=jg n (cnt l) (dE Q a.1 a.2):=rfl;obtain⟨R',g1,g2,g3⟩:=vU E (cnt l) (dE Q a.1 a.2) (orAt_lt O X.2 h.lt) (2^n-1) xA xA;have:=yy (l:=l) E (rY.1 g1);omega
   have L:∀R:List Nat,Part n 0 R.reverse->(R.reverse.idxOf a.1<R.reverse.idxOf a.2↔¬bwd R.reverse a=true):=λ R V=>by
    rw[J];have:R.reverse.idxOf a.1≠R.reverse.idxOf a.2:=λ h=>c (EH (Part.mem V X.1) (Part.mem V X.2) h)
    omega
   have Y:∀M:List Nat,(∀j,j<k+1->(j∈D↔j∈bJ M l))↔(∀j,j<k->(j∈D↔j∈bJ M l))/\¬bwd M a=true:=λ M=>by
    constructor
    ·intro h;exact⟨λ j K=>h j xA,λ F=>I ((h k xA).2 ((U M).2 F))⟩
    ·rintro⟨Z,T⟩ j K;rcases qP.1 K with N|rfl
     ·exact Z j N
     ·exact⟨λ h=>(I h).elim,λ h=>(T ((U M).1 h)).elim⟩
   exact{
    len:=by simp[dE,h.len]
    lt:=orAt_lt G X.1 h.lt
    asc:=h.asc
    below:=λ i S=>by have:=h.below i S;omega
    adm:=λ R V=>by rw[Y,sV G h.len X.1 V,h.adm R V,L R V]
    some:=by
     obtain⟨R,Z,T,N⟩:=h.some;refine⟨R,Z,(sV G h.len X.1 Z).2 ⟨T,(L R Z).2 ?_⟩,N⟩;rw[B R Z T N];decide
    first:=λ R V H=>by
     rcases h.first R V H with Z|⟨j,Z,T⟩
     ·refine .inl ((Y _).2 ⟨Z,?_⟩);rw[B R V ((h.adm R V).2 Z) H];decide
     ·exact .inr ⟨j,xA,T⟩}
theorem dec_all {n:Nat}{l:List NA}(h:n<=8)(Z:InN n l)(Y:l.length<1048576):∀k,k<=l.length->Dec n l k (eI n (cnt l) (db n l) l k).1 (eI n (cnt l) (db n l) l k).2
 |0,_=>Le h Z Y
 |k+1,V=>by
  have X:=uT (show k<l.length by omega);rw[eI,X];exact Ld h Z Y X (dec_all h Z Y k xA)
theorem least_back {n:Nat}{l:List NA}(T:n<=8)(Q:InN n l)(O:l.length<1048576):∃M,Part n 0 M/\bJ M l=cq n l:=by
 have h:=dec_all T Q O l.length (uI _);obtain⟨R,Y,V,N⟩:=h.some;refine⟨R.reverse,Y,(s7 h.asc (q6 _ _) λ j=>?_).symm⟩;have U:=(h.adm R Y).1 V;rcases uD j l.length with X|X
 ·exact U j X
 ·constructor
  ·intro Z;have:=h.below j Z;omega
  ·intro Z;obtain⟨a,S,_⟩:=oG.1 Z;have:=(uB.1 S).1;omega
theorem Nj {n:Nat}{l:List NA}(Q:n<=8)(X:InN n l)(N:l.length<1048576):(cq n l).length=db n l:=by
 have h:=dec_all Q X N l.length (uI _);obtain⟨R,Y,U,T⟩:=h.some;have S:=(h.adm R Y).1 U;rw[<-T,vz X Y]
 congr 1
 refine s7 h.asc (q6 _ _) λ j=>?_
 rcases uD j l.length with V|V
 ·exact S j V
 ·constructor
  ·intro Z;have:=h.below j Z;omega
  ·intro Z;obtain⟨a,O,_⟩:=oG.1 Z;have:=(uB.1 O).1;omega
theorem Nk {n:Nat}{l:List NA}(V:n<=8)(S:InN n l)(N:l.length<1048576){M:List Nat}(I:Part n 0 M):cR (bJ M l) (cq n l)=false:=by
 have h:=dec_all V S N l.length (uI _);have U:Part n 0 M.reverse.reverse:=by rw[zM];exact I
 have Y:=vz S U;have L:=yy (l:=l) V U;have G:=Nj V S N;rw[zM]at Y;cases Z:cR (bJ M l) (cq n l)with
 |false=>rfl
 |true=>
  have F:=Z;rw[cR]at Z;by_cases c:(bJ M l).length=(cq n l).length
  ·rcases h.first M.reverse U xA with X|⟨j,X,K,R,Q⟩
   ·rw[zM]at X;have:cq n l=bJ M l:=by
     refine s7 h.asc (q6 _ _) λ j=>?_
     rcases uD j l.length with O|O
     ·exact X j O
     ·constructor
      ·intro T;have:=h.below j T;omega
      ·intro T;obtain⟨a,H,_⟩:=oG.1 T;have:=(uB.1 H).1;omega
    rw[if_pos c,this,lexLt_irr]at Z;cases Z
   ·rw[zM]at R Q;have J:=Fi (a:=cq n l) (b:=bJ M l) h.asc (q6 _ _) c.symm K R Q;rw[if_pos c,wY J]at Z;cases Z
  ·rw[if_neg c]at Z;simp only[uG]at Z;omega
def eM (S:List Nat)(a:NA):Bool:= !decide (a.1=a.2)&&(decide (a.1∈S)&&decide (a.2∈S))
def fU (l:List NA)(S:List Nat)(v:Nat):Nat:=(l.filter λ a=>eM S a&&decide (a.1=v)).length
def fT (l:List NA)(S:List Nat)(v:Nat):Nat:=(l.filter λ a=>eM S a&&decide (a.2=v)).length
def iA (n:Nat)(S:List Nat)(p:Nat->Bool):Option Nat:=(List.range n).find? λ v=>decide (v∈S)&&p v
def gh (Z:Option (List Nat))(s:List Nat):Option (List Nat):=match Z with
 |none=>some s
 |some b=>if cR s b then some s else some b
mutual
def dS (n:Nat)(l:List NA):Nat->List Nat->List Nat
 |0,m=>bJ m l
 |f+1,m=>(bL n l f m n).getD []
def bL (n:Nat)(l:List NA)(f:Nat)(m:List Nat):Nat->Option (List Nat)
 |0=>none
 |k+1=>if k∈m then bL n l f m k else gh (bL n l f m k) (dS n l f (m++[k]))
end
structure Best (n:Nat)(l:List NA)(m s:List Nat):Prop where
 is:∃t,Part n 0 (m++t)/\s=bJ (m++t) l
 least:∀t,Part n 0 (m++t)->cR (bJ (m++t) l) s=false
theorem Nq (a:List Nat):cR a a=false:=by rw[cR,if_pos rfl];exact lexLt_irr a
theorem Ff {a b c:List Nat}(X:cR a b=false)(Z:cR b c=false):cR a c=false:=by
 cases h:cR a c
 ·rfl
 ·exfalso;cases Y:cR b a
  ·have:=Fe X Y;subst this;rw[Z]at h;cases h
  ·have:=Nr Y h;rw[Z]at this;cases this
theorem H0 (n:Nat)(l:List NA):∀(f:Nat) (m:List Nat),Part n f m->Best n l m (dS n l f m):=by
 intro f
 induction f with
 |zero=>
  intro m h;rw[dS];refine⟨⟨[],by rw[yS];exact h,by rw[yS]⟩,λ t Y=>?_⟩;have X:=Y.len;have S:=h.len;rw[uH]at X;have:t=[]:=qT xA;subst this;rw[yS];exact Nq _
 |succ f O=>
  intro m h
  have N:∀k,k<=n->match bL n l f m k with
    |none=>∀u,u<k->u∈m
    |some s=>(∃t,Part n 0 (m++t)/\s=bJ (m++t) l)/\∀u t,u<k->Part n 0 (m++u::t)->cR (bJ (m++u::t) l) s=false:=by
   intro k
   induction k with
   |zero=>intro _;rw[bL];intro u V;omega
   |succ k Z=>
    intro T;have Z:=Z xA;rw[bL];by_cases c:k∈m
    ·rw[if_pos c];revert Z;rcases bL n l f m k with _|s<;>intro Z
     ·intro u V;rcases qP.1 V with X|rfl
      ·exact Z u X
      ·exact c
     ·refine⟨Z.1,λ u t V Y=>?_⟩;rcases qP.1 V with X|rfl
      ·exact Z.2 u t X Y
      ·exfalso;have:=(zC.1 Y.nd).2.2 u c u xB;exact this rfl
    ·rw[if_neg c];have H:=O (m++[k]) (h.snoc xA c);have e:∀t,m++[k]++t=m++k::t:=λ t=>xB
     obtain⟨⟨B,X,S⟩,I⟩:=H;rw[e]at X S;have U:∀t,Part n 0 (m++k::t)->cR (bJ (m++k::t) l) (dS n l f (m++[k]))=false:=λ t Y=>by rw[<-e];exact I t (by rw[e];exact Y)
     revert Z;rcases bL n l f m k with _|s<;>intro Z
     ·refine⟨⟨_,X,S⟩,λ u t V Y=>?_⟩;rcases qP.1 V with R|rfl
      ·exfalso;have:=(zC.1 Y.nd).2.2 u (Z u R) u xB;exact this rfl
      ·exact U t Y
     ·simp only[gh];cases M:cR (dS n l f (m++[k])) s
      ·rw[if_neg kY];refine⟨Z.1,λ u t V Y=>?_⟩;rcases qP.1 V with R|rfl
       ·exact Z.2 u t R Y
       ·exact Ff (U t Y) M
      ·rw[if_pos rfl];refine⟨⟨_,X,S⟩,λ u t V Y=>?_⟩;rcases qP.1 V with R|rfl
       ·exact Ff (Z.2 u t R Y) (Np M)
       ·exact U t Y
  have T:=N n (uI n);rw[dS];revert T;rcases bL n l f m n with _|s<;>intro T
  ·exfalso;have:=nd_le (n:=m.length) (G:=m) h.nd;have C:n<=m.length:=by
    have:∀{a b:List Nat},a.Nodup->(∀x,x∈a->x∈b)->a.length<=b.length:=by
     intro a
     induction a with
     |nil=>intro b _ _;simp
     |cons x a O=>
      intro b F L;have Q:=qI.1 F;have K:=L x xB;have:=O (b:=b.erase x) Q.2 λ y J=>(Ad (λ e=>Q.1 (by rw[<-e];exact J))).2 (L y (uP _ J))
      rw[kU K]at this;have:=zU K;simp;omega
    have:=this (a:=List.range n) (b:=m) zI λ v E=>T v (yD.1 E)
    simpa using this
   have:=h.len;omega
  ·refine⟨T.1,λ t Y=>?_⟩;cases t with
   |nil=>
    have X:=Y.len;have S:=h.len;rw[yS]at X;omega
   |cons u t=>exact T.2 u t (Y.lt u xB) Y
theorem srch_least {n:Nat}{l:List NA}(h:n<=8)(Z:InN n l)(Y:l.length<1048576):dS n l n []=cq n l:=by
 have R:Part n n []:=⟨zL,xB,xB⟩;obtain⟨⟨t,U,T⟩,S⟩:=H0 n l n [] R;obtain⟨M,X,V⟩:=least_back h Z Y;refine Fe ?_ ?_
 ·rw[T];exact Nk h Z Y U
 ·rw[<-V];exact S M X
theorem srch_len (n:Nat)(l:List NA){f:Nat}{m:List Nat}(h:Part n f m):(dS n l f m).length<=l.length:=by
 obtain⟨⟨t,Y,Z⟩,_⟩:=H0 n l f m h;rw[Z,bJ];exact gY (jA _ _) xB
end Go.Cy
namespace Go.PS
open Go
theorem z8 {n:Nat}(h:n<9223372036854775808):IntKind.i64.wrap (n:Int)=n:=by
 rw[IntKind.wrap_i64];omega
theorem pq (a:Nat):BitVec.ofInt 64 (a:Int)=BitVec.ofNat 64 a:=BitVec.ofInt_natCast _ _
theorem pu {a:Nat}(h:a<9223372036854775808):(BitVec.ofNat 64 a).toNat=a:=by
 rw[BitVec.toNat_ofNat,Dm];omega
theorem Kr {a b:Nat}(h:a<9223372036854775808)(Z:b<9223372036854775808):IntKind.i64.wrap ((BitVec.ofInt 64 (a:Int)&&&BitVec.ofInt 64 (b:Int)).toNat:Int)=((a&&&b:Nat):Int):=by
 rw[pq,pq,BitVec.toNat_and,pu h,pu Z];exact z8 (Nat.lt_of_le_of_lt Nat.and_le_left h)
theorem CT {a b:Nat}(h:a<9223372036854775808)(Z:b<9223372036854775808):IntKind.i64.wrap ((BitVec.ofInt 64 (a:Int)|||BitVec.ofInt 64 (b:Int)).toNat:Int)=((a|||b:Nat):Int):=by
 rw[pq,pq,BitVec.toNat_or,pu h,pu Z];exact z8 (Nat.or_lt_two_pow (n:=63) h Z)
def kx (a b:Nat):Nat:=a^^^(a&&&b)
theorem sY (a b i:Nat):(kx a b).testBit i=(a.testBit i&& !b.testBit i):=by
 simp only[kx,Nat.testBit_xor,Nat.testBit_and];cases a.testBit i<;>cases b.testBit i<;>rfl
theorem CR {a b:Nat}(Z:a<9223372036854775808)(V:b<9223372036854775808):IntKind.i64.wrap ((BitVec.ofInt 64 (a:Int)&&&~~~BitVec.ofInt 64 (b:Int)).toNat:Int)=((kx a b:Nat):Int):=by
 have e:(BitVec.ofNat 64 a&&&~~~BitVec.ofNat 64 b).toNat=kx a b:=by
  refine Bj λ i=>?_
  rw[sY,BitVec.testBit_toNat,BitVec.getLsbD_and,BitVec.getLsbD_not];rw[<-BitVec.testBit_toNat,pu Z,<-BitVec.testBit_toNat,pu V];rcases uD i 64 with h|h
  ·simp[h]
  ·have:a.testBit i=false:=zV (gS Z (gY (by decide:9223372036854775808<=2^64) (zO (n:=2) xC h)));simp[this]
 rw[pq,pq,e];refine z8 (Nat.lt_of_le_of_lt ?_ Z);refine Nat.le_of_not_lt λ h=>?_
 have:kx a b<=a:=by
  have Y:=Nat.and_le_left (n:=a) (m:=kx a b);have X:a&&&kx a b=kx a b:=by
   refine Bj λ i=>?_
   rw[Nat.testBit_and,sY];cases a.testBit i<;>rfl
  rw[X]at Y;exact Y
 omega
theorem JG {a b n:Nat}(Y:a<2^n):kx a b=0↔Go.Cy.inB n a b=true:=by
 rw[Go.Cy.inB_iff];constructor
 ·intro h u _ Z;have:=sY a b u;rw[h,Cj,Z]at this;simpa using this.symm
 ·intro h;refine Bj λ u=>?_
  rw[sY,Cj];rcases uD u n with Z|Z
  ·cases X:a.testBit u
   ·rfl
   ·rw[h u Z X];rfl
  ·rw[zV (gS Y (zO xC Z))];rfl
theorem JF :∀s:Nat,s<256->∀v:Nat,v<8->s.testBit v=true->kx s (2^v)=s-2^v:=by decide+kernel
theorem RY :∀s:Nat,s<256->∀v:Nat,v<8->IntKind.i64.wrap ((BitVec.ofInt 64 ((s:Int).fdiv (2^min v 64))&&&1#64).toNat:Int)=if s.testBit v then 1 else 0:=by decide+kernel
theorem uo :∀n:Nat,n<=8->IntKind.i64.wrap (1*2^min n 64)=((2^n:Nat):Int):=by decide+kernel
end Go.PS
namespace Go.Hp
def at0 (l:List Nat)(i:Nat):Nat:=(l[i]?).getD 0
def Ik (l:List Nat)(i j:Nat):List Nat:=(l.set i (at0 l j)).set j (at0 l i)
def upN :Nat->List Nat->Nat->List Nat
 |0,l,_=>l
 |f+1,l,j=>if(j-1)/2=j\/¬at0 l j<at0 l ((j-1)/2)then l else upN f (Ik l ((j-1)/2) j) ((j-1)/2)
def jl (l:List Nat)(x:Nat):List Nat:=upN (l.length+1) (l++[x]) l.length
end Go.Hp
namespace Go.Cy
def inC (l:List NA)(o:List Nat)(w:Nat):Nat:=(l.filter λ a=>decide (a.2=w)&& !decide (a.1∈o)).length
def hds (l:List NA)(v:Nat):List Nat:=(l.filter λ a=>decide (a.1=v)).map (·.2)
def occ (l:List Nat)(w:Nat):Nat:=(l.filter λ u=>decide (u=w)).length
theorem xx (x:Nat)(l:List Nat)(w:Nat):occ (x::l) w=(if x=w then 1 else 0)+occ l w:=by
 simp only[occ,kK];by_cases c:x=w
 ·rw[if_pos (by simp[c]),if_pos c];simp;omega
 ·rw[if_neg (by simp[c]),if_neg c];simp
theorem Mv {l:List NA}{o:List Nat}{w:Nat}:inC l o w=0↔∀a,a∈l->a.2=w->a.1∈o:=by
 simp only[inC,gQ,List.filter_eq_nil_iff,uN,uG,yL,qJ,not_and,Ba]
structure Kahn (n:Nat)(l:List NA)(q o:List Nat)(op:Nat->Nat):Prop where
 nd:(q++o).Nodup
 lt:∀v,v∈q++o->v<n
 num:∀w,w<n->op w=inC l o w
 zero:∀w,w<n->(w∈q++o↔op w=0)
 peel:lB l o.reverse
structure KahnI (n:Nat)(l:List NA)(q o:List Nat)(r:List Nat)(op:Nat->Nat):Prop where
 nd:(q++o).Nodup
 lt:∀v,v∈q++o->v<n
 num:∀w,w<n->op w=inC l o w+occ r w
 zero:∀w,w<n->(w∈q++o↔op w=0)
 peel:lB l o.reverse
theorem KahnI.done {n:Nat}{l:List NA}{q o:List Nat}{op:Nat->Nat}(h:KahnI n l q o [] op):Kahn n l q o op:=
 ⟨h.nd,h.lt,λ w Z=>by rw[h.num w Z];rfl,h.zero,h.peel⟩
theorem KahnI.pos {n:Nat}{l:List NA}{q o r:List Nat}{op:Nat->Nat}{w:Nat}(h:KahnI n l q o (w::r) op)(Z:w<n):0<op w:=by
 have:=h.num w Z;rw[xx,if_pos rfl]at this;omega
theorem KahnI.keep {n:Nat}{l:List NA}{q o r:List Nat}{op Y:Nat->Nat}{w:Nat}(h:KahnI n l q o (w::r) op)(T:w<n)(X:∀u,u<n->Y u=if u=w then op w-1 else op u)(U:op w≠1):KahnI n l q o r Y:=by
 have V:=h.pos T;refine⟨h.nd,h.lt,λ u Z=>?_,λ u Z=>?_,h.peel⟩
 ·have:=h.num u Z;rw[xx]at this;rw[X u Z];by_cases c:u=w
  ·subst c;rw[if_pos rfl]at this|-;omega
  ·rw[if_neg c];rw[if_neg (Ne.symm c)]at this;omega
 ·rw[h.zero u Z,X u Z];by_cases c:u=w
  ·subst c;rw[if_pos rfl];omega
  ·rw[if_neg c]
theorem KahnI.push {n:Nat}{l:List NA}{q o r:List Nat}{op X:Nat->Nat}{w:Nat}(h:KahnI n l q o (w::r) op)(R:w<n)(T:∀u,u<n->X u=if u=w then op w-1 else op u)(M:op w=1){V:List Nat}(S:V.Perm (q++[w])):KahnI n l V o r X:=by
 have U:w∉q++o:=λ O=>by have:=(h.zero w R).1 O;omega
 have Z:∀u,u∈V++o↔u∈q++o\/u=w:=λ u=>by
  simp only[yP,S.mem_iff,yI,gV,Cp];constructor
  ·rintro((h|h)|h)
   ·exact .inl (.inl h)
   ·exact .inr h
   ·exact .inl (.inr h)
  ·rintro((h|h)|h)
   ·exact .inl (.inl h)
   ·exact .inr h
   ·exact .inl (.inr h)
 have N:(V++o).Perm (w::(q++o)):=by
  refine(List.Perm.append_right o S).trans ?_;rw[qG];exact(Bl (a:=w) (l₁:=q) (l₂:=o))
 refine⟨N.nodup_iff.2 (qI.2 ⟨U,h.nd⟩),λ u Y=>?_,λ u Y=>?_,λ u Y=>?_,h.peel⟩
 ·rcases(Z u).1 Y with Q|rfl
  ·exact h.lt u Q
  ·exact R
 ·have:=h.num u Y;rw[xx]at this;rw[T u Y];by_cases c:u=w
  ·subst c;rw[if_pos rfl]at this|-;omega
  ·rw[if_neg c];rw[if_neg (Ne.symm c)]at this;omega
 ·rw[Z,T u Y];by_cases c:u=w
  ·subst c;rw[if_pos rfl];exact⟨λ _=>xA,λ _=> .inr rfl⟩
  ·rw[if_neg c,<-h.zero u Y];exact⟨λ h=>h.resolve_right c, .inl⟩
theorem Kahn.fin {n:Nat}{l:List NA}{o:List Nat}{op:Nat->Nat}(h:Kahn n l [] o op)(M:InN n l)(J:∀a,a∈l->a.1≠a.2):¬o.length<n↔Acy l:=by
 constructor
 ·intro X;exact h.peel.all M λ v Z=>qX.2 (nd_all (by simpa using h.nd) (λ u H=>h.lt u (by simpa using H)) xA v Z)
 ·intro R X;have Q:qx n l o.reverse:=by
   intro v Z N T;have U:v∉[]++o:=by simpa using N
   apply U;rw[h.zero v Z,h.num v Z,Mv];intro a R O;exact qX.1 (T a R O (by rw[<-O];exact J a R))
  have Y:=stuck_all M R Q;have O:n<=o.length:=by
   have S:∀{a b:List Nat},a.Nodup->(∀x,x∈a->x∈b)->a.length<=b.length:=by
    intro a
    induction a with
    |nil=>intro b _ _;simp
    |cons x a G=>
     intro b I Q;have V:=qI.1 I;have L:=Q x xB;have:=G (b:=b.erase x) V.2 λ y K=>(Ad (λ e=>V.1 (by rw[<-e];exact K))).2 (Q y (uP _ K))
     rw[kU L]at this;have:=zU L;simp;omega
   have:=S (a:=List.range n) (b:=o) zI λ v Z=>qX.1 (Y v (yD.1 Z))
   simpa using this
  omega
end Go.Cy
namespace Go.PS
open Go Go.ChangeShapes Go.WideShapes Go.RowKit Go.Deep
theorem Il {P:Program}{w:World}{g:Nat}(Y:P.globalNamed "math/bits.deBruijn64tab" =some g)(h:Lib.TabIs P w "math/bits.deBruijn64tab" .u8 ja):iO (tabs P) w noX:=by
 intro q V;rw[tabs,Y]at V;obtain rfl:=uX.1 V;have Z:=λ i U=>h.cell Y i U
 refine⟨?_,λ h=>h,λ j v X=>?_⟩
 ·exact re (Z 0 xC)
 ·have T:=(uB.1 X).1;rw[Z j T,jI,X];rfl
section
variable {H:Type}{enc:TypeId×Value->H}
theorem E1 {a:Assume}{C:Checked}{os:Os}{f:FuncId}{fn:Func}{s:ChangeSpec}{tb:TypeId}{L:List (String×DataW Unit)}
  (own:ownKnob C.prog.godebug=none)(U:os.Started)(R:C.prog.inits.idxOf? f=none)(hfn:C.prog.funcs[f]? =some fn)
  (T:∃(w:World) (Z:Tape) (i:Input),w.os=os/\(w.forCall Z i).Shaped C.prog/\i.vars=[]/\Input.okWide C.prog (w.forCall Z i) .any w.heap.size f i/\
   ((s.pre enc C.prog fn [] false (w.forCall Z i).memory i.args/\laidMetH C.prog L (w.forCall Z i).memory)/\sizedMet enc C.prog fn (OpenSpec.ofChange s) false (w.forCall Z i).memory i.args)/\a.holds C.prog (lone (Frame.enter C.prog f i.args .normal) [] (w.forCall Z i)))
  (hl:laidOutB C.prog=true)(S:(fn.params.toList.all λ t=>fw C.prog 8 t&&C.prog.readableRec t&&decide (t<C.prog.types.size))=true)
  (G:fn.resultTypes=#[tb])(N:C.prog.underlying tb=some .bool)(V:s.vars=[])
  (hs:∀O:List (DataW H),O.length=fn.params.size->s.fn H O={results:=[.lit (.bool true)],args:=O})
  (M:∀xs:List D,xs.length=fn.params.size->(∀(j:Nat) t x,fn.params[j]? =some t->xs[j]? =some x->qr C.prog t x)->ah C.prog f xs (.bool true))
  (K:∀w,laidMetH C.prog L w->iO (tabs C.prog) w noX):
  ReturnsInHanded a C os f .any (λ w args=>(s.pre enc C.prog fn [] false w args/\laidMetH C.prog L w)/\sizedMet enc C.prog fn (OpenSpec.ofChange s) false w args) (s.post enc C.prog fn false true false false):=by
 refine returnsInHanded_of_change_and (X:=λ w _=>laidMetH C.prog L w) (λ _ _ _ hh h=>h.of_heap hh) own U R hfn T ?_;intro W base' args O gs B E hW _ hwt hL _;have I:=hW;obtain⟨p,q,hA,hV,rfl,_,_⟩:=hW;rw[V]at hV;obtain⟨rfl,rfl⟩:=trodVars_none hV;simp only[yF,uN,uG]at S;obtain⟨xs,h1,h2,h3,h4,h5⟩:=JQ fn.params.toList args.toList O p (λ t z=>(S t z).1.1) (λ j t v Q F=>E j t v (by simpa using Q) (by simpa using F)) hA (λ j t d Q hd=>HS hwt (j:=j) (by rw[qZ (uB.1 Q).1];exact Q) (by rw[yS];exact hd));have hc:=M xs (by simpa using h1) (λ j t x Q J=>h4 j t x (by simpa using Q) J);refine Calls.mono (hc.2 W noX args (λ b A=>A.elim) ⟨by simp at h1 h2;omega,λ j d v Q F=>h5 j d v Q (by simpa using F)⟩ (K W hL)) ?_;rintro e W' ⟨v,rfl,F,A⟩;refine⟨v,rfl,?_⟩;cases F;have hlt:∀x∈p,x.block<W.heap.size:=λ x J=>I.lt x (by simpa using J)
 have Y:=hs O (by simpa using h3);refine⟨O,[],p++[],[],p,[],I,?_,?_,?_,World.keptBut_mono (λ x J=>⟨J, .inr (.inl (by simpa using J))⟩) (A.frame (·∈p++[])),(λ h=>by cases h)⟩
 ·rw[yS,Y,G];exact⟨[],[],⟨1,by simp[DataW.trod,Value.cells,N]⟩,rfl,rfl⟩
 ·rw[yS,Y];exact JR hl A _ _ _ _ (λ t z=>⟨(S t z).1.2,(S t z).2⟩) hlt hA
 ·rw[V,yS,Y];rfl
end
end Go.PS
