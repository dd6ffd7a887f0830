/- Matrices of pairs: whether they are valid, sums, and lists that contain a number. -/
import Derived.Test.YtjjbhjnpeenbkaaGreatDoorSp
import Derived.Test.YtjjbhjnpeenbkaaGreatDoorPSFam
import Derived.Test.YtjjbhjnpeenbkaaGreatDoorPSBd
set_option linter.unusedSimpArgs false
set_option linter.unusedVariables false
set_option maxHeartbeats 16000000
namespace Go.Proofs.YtjjbhjnpeenbkaaGreatDoor
open Go Go.PS Go.Proofs
open Go.Bd (sm aI cu)
set_option maxRecDepth 100000
attribute [local irreducible] ao wpG ah ax
abbrev aG (v:Nat):D:= .int (v:Int)
abbrev br (l:List Nat):D:= .sl (l.map aG)
theorem FJ (l:List Nat):br l=aj (l.map λ v:Nat=>(v:Int)):=by rw[br,aj,gU];rfl
theorem nw (l:List Nat):∀d,d∈l.map aG->d.cells.length=1:=oo aG 1 (λ _=>rfl) l
theorem ji (v:Nat):∀d,d∈[aG v]->d.cells.length=1:=λ d h=>by rw[uX.1 h];rfl
theorem FE {l:List Nat}{v:Nat}:(v:Int)∈l.map (λ v:Nat=>(v:Int))↔v∈l:=by
 simp[uR,Int.ofNat_inj]
theorem xT (l:List Int)(v:Int):decide (0<=placeF l v)=decide (v∈l):=by
 rw[Gp,qW,gW];simp
theorem K3 (l:List Int)(v:Int):ah Tryz.prog 224 [aj l, .int v] (.bool (decide (v∈l))):=by
 have h:=tA l v;rw[<-xT];refine kE Tryz.func224 ?_;intro Z B X Y;refine ac kO aa (ae h) ?_;exact ay rfl
theorem pB (l:List Nat)(v:Nat):ah Tryz.prog 224 [br l, .int v] (.bool (decide (v∈l))):=by
 have h:=K3 (l.map λ v:Nat=>(v:Int)) v;rw[<-FJ,Bo.2 FE]at h;exact h
theorem Mw (l:List Int)(v:Int):ah Tryz.prog 279 [aj l, .int v] (.bool (decide (v∈l))):=by
 refine kE Tryz.func279 ?_;intro Y B X O;have S:=bI 0 Y rfl;rw[uC]at S;refine ac kO aa aa ?_;refine aq (λ(k:Nat)=>k<=l.length/\∀(j:Nat) y,j<k->l[j]? =some y->y≠v) (λ k=>[(0, .d (aj l)),(1, .int v),(5, .int k)]) (λ k=>[]) (λ k=>l.length-k) 0 ?_ ?_ ?_
 ·exact⟨uF _,λ j y V=>xA⟩
 ·exact kN aa []
 ·rintro k ⟨Q,h⟩;rcases uD k l.length with U|T
  ·obtain⟨y,Z⟩:=ak U;by_cases c:y=v
   ·refine ac kO (ai Z c) aa ?_;refine ay ?_;rw[uZ (c▸uA Z)]
   ·refine ac kO (ai Z c) aa ?_;refine⟨k+1,?_,kN aa [],?_⟩
    ·exact⟨xA,b9 h Z c⟩
    ·omega
  ·refine ac kO aa aa ?_;refine ay ?_;rw[uW];intro R;obtain⟨j,V⟩:=qA R;exact h j v (by have:=(uB.1 V).1;omega) V rfl
theorem EJ (l:List Nat)(v:Nat):ah Tryz.prog 279 [br l, .int v] (.bool (decide (v∈l))):=by
 have h:=Mw (l.map λ v:Nat=>(v:Int)) v;rw[<-FJ,Bo.2 FE]at h;exact h
def cW (x:Int):Bool:=decide (x<0)||decide (1000000<x)
def j4 (n:Nat)(p:List Int):Bool:=decide (p.length≠n)||p.any cW
def okM (m:List (List Int)):Bool:=decide (m.length<=8)&& !m.any (j4 m.length)
theorem rU {m:List (List Int)}(h:okM m=true):Sq m/\m.length<=8:=by
 simp only[okM,uN,uG,yL,qH]at h;obtain⟨X,V⟩:=h;have Y:∀p,p∈m->p.length=m.length/\∀x,x∈p->0<=x/\x<=1000000:=λ p Z=>by
  have:=V p Z;simp only[j4,gI,uG,not_or,Bp,qH]at this;refine⟨xA,λ x U=>?_⟩;have:=this.2 x U;simp only[cW,gI,Bool.or_eq_false_iff,uG,qJ,not_or]at this;omega
 exact⟨⟨xA,λ p Z=>(Y p Z).1,λ p Z=>(Y p Z).2⟩,X⟩
theorem SQ {m:List (List Int)}(h:Sq m)(X:m.length<=8):okM m=true:=by
 simp only[okM,uN,uG,yL,qH];refine⟨X,λ p Y=>?_⟩;simp only[j4,gI,uG,not_or,Bp,qH];refine⟨λ Z=>Z (h.row p Y),λ x V=>?_⟩;have:=h.val p Y x V;simp only[cW,gI,Bool.or_eq_false_iff,uG,qJ,not_or];omega
theorem Sq.small {m:List (List Int)}(h:Sq m):cu (au m) m.length:=λ u v X V=>by
 obtain⟨p,_,_,_,Z,Y⟩:=h.get X V;exact⟨Z,Y⟩
theorem J1 (x:Int):ah Tryz.prog 223 [.int x] (.bool (cW x)):=by
 refine kE Tryz.func223 ?_;intro h B X Y;refine kw kO aa aa ?_
 repeat' first|exact True.intro|refine Bn.mk ?_ ?_|intro Z
 all_goals
  refine ay ?_;simp only[cW, *,Co,Au,Db,Bm,Cn,Bool.or_false]
theorem B2 (m:List (List Int)):ah Tryz.prog 178 [am m] (.bool (okM m)):=by
 refine kE Tryz.func178 ?_;intro U B X L;have O:=bI 0 U rfl;rw[uC]at O;by_cases N:8<m.length
 ·refine ac kO aa aa ?_;refine ay ?_;rw[okM,uW xA];rfl
 ·refine ac kO aa aa ?_;refine aq (λ(k:Nat)=>k<=m.length/\∀(j:Nat) y,j<k->m[j]? =some y->j4 m.length y=false) (λ k=>[(0, .d (am m)),(8, .d (am m)),(9, .int m.length),(10, .int k)]) (λ k=>[]) (λ k=>m.length-k) 0 ?_ ?_ ?_
  ·exact⟨uF _,λ j y Q=>xA⟩
  ·exact kN aa []
  ·rintro k ⟨M,Z⟩;rcases uD k m.length with S|R
   ·obtain⟨p,Y⟩:=ak S;have h:=ti p 223 cW J1;by_cases c:p.length=m.length
    ·have V:(p.length:Int)=m.length:=xA;rcases T:p.any cW with _|_<;>rw[T]at h
     ·refine ac kO (ai Y V) (ae h) ?_;refine⟨k+1,?_,kN aa [],?_⟩
      ·exact⟨xA,b9 Z Y (by rw[j4,T,uW xA];rfl)⟩
      ·omega
     ·refine ac kO (ai Y V) (ae h) ?_;refine ay ?_;rw[okM,dk Y (by rw[j4,T,Bm])];simp
    ·have V:¬(p.length:Int)=m.length:=xA;refine ac kO (ai Y V) (ae h) ?_;refine ay ?_;rw[okM,dk Y (by rw[j4,uZ c,Db])];simp
   ·refine ac kO aa aa ?_;refine ay ?_;rw[okM,d6 λ j y Q=>Z j y xA,uZ xA];rfl
theorem Qr (m:List (List Int)):ah Tryz.prog 255 [am m] (.bool (okM m)):=by
 refine kE Tryz.func255 ?_;intro R B X G;have L:=bI 0 R rfl;rw[uC]at L;by_cases J:8<m.length
 ·refine ac kO aa aa ?_;refine ay ?_;rw[okM,uW xA];rfl
 ·refine ac kO aa aa ?_;refine aq (λ(k:Nat)=>k<=m.length/\∀(j:Nat) y,j<k->m[j]? =some y->j4 m.length y=false) (λ k=>[(0, .d (am m)),(3, .int k)]) (λ k=>[]) (λ k=>m.length-k) 0 ?_ ?_ ?_
  ·exact⟨uF _,λ j y Q=>xA⟩
  ·exact kN aa []
  ·rintro k ⟨H,Y⟩;rcases uD k m.length with O|N
   ·obtain⟨p,Z⟩:=ak O;by_cases c:p.length=m.length
    ·have S:(p.length:Int)=m.length:=xA;refine ac kO (ai Z S) aa ?_;refine aq (λ(i:Nat)=>i<=m.length/\∀(j:Nat) y,j<i->p[j]? =some y->cW y=false) (λ i=>[(0, .d (am m)),(3, .int k),(4, .int i)]) (λ i=>[]) (λ i=>m.length-i) 0 ?_ ?_ ?_
     ·exact⟨uF _,λ j y Q=>xA⟩
     ·exact kN aa []
     ·rintro i ⟨I,h⟩;rcases uD i m.length with K|M
      ·obtain⟨x,V⟩:=ak (l:=p) (k:=i) xA;by_cases U:x<0
       ·refine ac kO (av Z V U) aa ?_;refine ay ?_;rw[okM,dk Z (by rw[j4,dk V (by rw[cW,uZ U];rfl),Bm])];simp
       ·by_cases T:1000000<x
        ·refine ac kO (aE Z V U T) aa ?_;refine ay ?_;rw[okM,dk Z (by rw[j4,dk V (by rw[cW,uZ T,Bm]),Bm])];simp
        ·refine ac kO (aE Z V U T) aa ?_;refine⟨i+1,?_,kN aa [],?_⟩
         ·exact⟨xA,b9 h V (by rw[cW,uW U,uW T];rfl)⟩
         ·omega
      ·refine ac kO aa aa ?_;refine⟨k+1,?_,kN aa [],?_⟩
       ·exact⟨xA,b9 Y Z (by rw[j4,uW xA,d6 λ j y Q=>h j y xA];rfl)⟩
       ·omega
    ·have S:¬(p.length:Int)=m.length:=xA;refine ac kO (ai Z S) aa ?_;refine ay ?_;rw[okM,dk Z (by rw[j4,uZ c,Db])];simp
   ·refine ac kO aa aa ?_;refine ay ?_;rw[okM,d6 λ j y Q=>Y j y xA,uZ xA];rfl
end Go.Proofs.YtjjbhjnpeenbkaaGreatDoor
namespace Go.Proofs.YtjjbhjnpeenbkaaGreatDoor
open Go Go.PS Go.Proofs
open Go.Bd (sm aI cu low Part co cJ b7)
set_option maxRecDepth 100000
attribute [local irreducible] ao wpG ah ax
def lwF (m:List (List Int))(k:Nat):Int:=sm (λ u=>sm (λ v=>min (au m u v) (au m v u)) u) k
theorem Fz (m:List (List Int)):low (au m) m.length []=lwF m m.length:=by
 rw[low,lwF];refine Go.Bd.sm_congr _ λ u _=>Go.Bd.sm_congr _ λ v _=>?_
 rw[if_pos ⟨gV,gV⟩,Int.min_comm]
theorem rE (a b:Int):(if b<a then b else a)=min a b:=xA
theorem Fy {m:List (List Int)}(h:Sq m)(V:m.length<=8){u:Nat}(Z:u<m.length)(k:Nat)(U:k<=u):0<=sm (λ v=>min (au m u v) (au m v u)) k/\sm (λ v=>min (au m u v) (au m v u)) k<=1000000*k:=
 Go.Bd.sm_bounds k λ v T=>by
  have Y:=h.small u v Z xA;have X:=h.small v u xA Z;omega
theorem Fx {m:List (List Int)}(Z:Sq m)(h:m.length<=8)(k:Nat)(Y:k<=m.length):0<=lwF m k/\lwF m k<=8000000*k:=
 Go.Bd.sm_bounds k λ u X=>by
  have:=Fy Z h (u:=u) xA u (uI _);omega
theorem Jf (m:List (List Int))(h:okM m=true):ah Tryz.prog 180 [am m] (.int (low (au m) m.length [])):=by
 have V:=B2 m;rw[h]at V;obtain⟨Y,S⟩:=rU h;rw[Fz];refine kE Tryz.func180 ?_;intro O B X b;refine ac kO aa (ae V) ?_;refine aq (λ(u:Nat)=>u<=m.length) (λ u=>[(0, .d (am m)),(3, .int (lwF m u)),(10, .int m.length),(11, .int u)]) (λ u=>[]) (λ u=>m.length-u) 0 ?_ ?_ ?_
 ·exact uF _
 ·exact eL [] _ _ (by refine⟨?_,?_⟩<;>(repeat' first|exact fmn|refine fmc ⟨(by first|rfl|(simp(disch:=omega) only[go_sem,simprocAttr,inL,lwF,sm];first|done|omega|(congr 1;done))),?_⟩);done)
 ·intro u F;have s:=Fx Y S u F;rcases uD u m.length with Z|M
  ·have R:lwF m (u+1)=lwF m u+sm (λ v=>min (au m u v) (au m v u)) u:=rfl;refine ac kO aa aa ?_;refine aq (λ(v:Nat)=>v<=u) (λ v=>[(0, .d (am m)),(3, .int (lwF m u+sm (λ v=>min (au m u v) (au m v u)) v)),(4, .int u),(10, .int m.length),(11, .int u),(14, .int u),(15, .int v)]) (λ v=>[]) (λ v=>u-v) 0 ?_ ?_ ?_
   ·exact uF _
   ·exact eL [] _ _ (by refine⟨?_,?_⟩<;>(repeat' first|exact fmn|refine fmc ⟨(by first|rfl|(simp(disch:=omega) only[go_sem,simprocAttr,inL,sm,jM];first|done|omega|(congr 1;done))),?_⟩);done)
   ·intro v V;have N:=Fy Y S Z v V;rcases uD v u with K|L
    ·obtain⟨p,J,I,U,E,C⟩:=Y.get Z (show v<m.length by omega);obtain⟨q,H,G,T,A,z⟩:=Y.get (show v<m.length by omega) Z;have Q:sm (λ v=>min (au m u v) (au m v u)) (v+1)=sm (λ v=>min (au m u v) (au m v u)) v+min (au m u v) (au m v u):=rfl;refine ac kO (aQ J H U T @rE) aa ?_;refine⟨v+1,?_,kN (ai Q @kH) [],?_⟩
     ·omega
     ·omega
    ·have:v=u:=xA;subst this;refine ac kO aa aa ?_;refine⟨v+1,?_,kN (ae R) [],?_⟩
     ·omega
     ·omega
  ·have:u=m.length:=xA;subst this;refine ac kO aa aa ?_;exact ap rfl
theorem Lo {l:List Nat}{i u:Nat}(h:l[i]? =some u):l.drop i=u::l.drop (i+1):=by
 obtain⟨Y,Z⟩:=uB.1 h;rw[<-Z];exact qV Y
theorem Ij (m:List (List Int))(l:List Nat)(N:Sq m)(h8:m.length<=8)(V:∀v,v∈l->v<m.length)(s:l.length<=8):ah Tryz.prog 278 [am m,br l] (.int (aI (au m) l)):=by
 have h:∀i,0<=aI (au m) (l.drop i)/\aI (au m) (l.drop i)<=64000000:=λ i=>by
  have:=Go.Bd.sumC_bounds N.small (l.drop i) (λ v Z=>V v (jS Z)) (by rw[jR];omega);rw[jR]at this;omega
 have U:=h 0;rw[qD]at U;refine kE Tryz.func278 ?_;intro F B X w0;refine ac kO aa aa ?_;refine aq (λ(i:Nat)=>i<=l.length) (λ i=>[(0, .d (am m)),(1, .d (br l)),(5, .int (aI (au m) l-aI (au m) (l.drop i))),(6, .int i)]) (λ i=>[]) (λ i=>l.length-i) 0 ?_ ?_ ?_
 ·exact uF _
 ·exact kN (ai @qD.{0} @Int.sub_self) []
 ·intro i hi;have b1:=h i;rcases uD i l.length with Q|A
  ·obtain⟨u,L⟩:=ak Q;have C:=Lo L;have Y:=V u (uA L);have b2:=h (i+1);have e1:aI (au m) (l.drop i)=((l.drop (i+1)).map (au m u)).sum+aI (au m) (l.drop (i+1)):=by rw[C];rfl
   have T:(l.drop (i+1)).length=l.length-(i+1):=jR ..;have M:∀j,0<=(((l.drop (i+1)).take j).map (au m u)).sum/\(((l.drop (i+1)).take j).map (au m u)).sum<=8000000:=λ j=>by
    have:=Go.Bd.sum_bounds (f:=au m u) (K:=1000000) ((l.drop (i+1)).take j) λ v Z=>N.small u v Y (V v (jS (gT Z)))
    rw[yA,T]at this;omega
   generalize aI (au m) l=S at*;generalize aI (au m) (l.drop i)=I at*;refine ac kO aa aa ?_;refine aq (λ(j:Nat)=>j<=l.length-(i+1)) (λ j=>[(0, .d (am m)),(1, .d (br l)),(5, .int (S-I+(((l.drop (i+1)).take j).map (au m u)).sum)),(6, .int i),(7, .int (i+1+j:Nat))]) (λ j=>[]) (λ j=>l.length-j) 0 ?_ ?_ ?_
   ·exact uF _
   ·exact kN (bq @yQ.{0} @uY.{0,0} @Cz.{0} @jM @qQ @gN) []
   ·intro j hj;have E:=M j;rcases uD (i+1+j) l.length with R|z
    ·obtain⟨v,Z⟩:=ak R;have J:=V v (uA Z);obtain⟨p,q,b,O,h1,h2⟩:=N.get Y J;have H:(((l.drop (i+1)).take (j+1)).map (au m u)).sum=(((l.drop (i+1)).take j).map (au m u)).sum+au m u v:=by
      rw[aM (x:=v) (by rw[gC];exact Z),uO,Cb];simp
     refine ac kO (aE L Z q O) aa ?_;refine⟨j+1,?_,kN (aE H @qQ @gN @kH) [],?_⟩
     ·omega
     ·omega
    ·have:j=l.length-(i+1):=xA;subst this;have ht:(l.drop (i+1)).take (l.length-(i+1))=l.drop (i+1):=uE xA;have G:S-I+(((l.drop (i+1)).take (l.length-(i+1))).map (au m u)).sum=S-aI (au m) (l.drop (i+1)):=by rw[ht];omega
     refine ac kO aa aa ?_;refine⟨i+1,?_,kN (ae G) [],?_⟩
     ·omega
     ·omega
  ·have:i=l.length:=xA;subst this;have:aI (au m) (l.drop l.length)=0:=by rw[List.drop_length];rfl
   refine ac kO aa aa ?_;exact ap xA
def dr :Option (List Nat×Int)->List Nat
 |none=>[]
 |some s=>s.1
def dX :Option (List Nat×Int)->Int
 |none=>-1
 |some s=>s.2
theorem Kd (m:List (List Int))(F:Sq m)(I:m.length<=8):∀(f:Nat) (l:List Nat),Part m.length f l->∀(b:List Nat) (k:Int),co (au m) m.length f l=some (b,k)->
  ax Tryz.prog 256 [.d (am m), .ref 1000 1 0 l.length l.length] [(1000, .row 1 (l.map aG)),(2000, .dead)] (.tup [.ref 2000 1 0 b.length b.length, .int k]) [(1000, .gone),(2000, .row 1 (b.map aG))]:=by
 intro f
 induction f with
 |zero=>
  intro l S b k Q;have H:=S.len;rw[co]at Q;cases Q;have h1:=Ij m l F I S.lt xA;refine kM Tryz.func256 ?_;intro B X w0;refine fc ?_;have N:(l.length:Int)=m.length:=xA;refine ac kO (ai N @aA) (ae h1) ?_;refine⟨_,pF 1000 2000 rfl xC xC,?_⟩;exact⟨⟨_,rfl,by simp[sO,sQ,mvG,upd,PV.ren,N];done⟩,uM.2 ⟨rfl,uM.2 ⟨by simp[mvG,upd,aL,Ob.ren,PV.ren],yB _⟩⟩⟩
 |succ f A=>
  intro l S b k Q;have H:=S.len;rw[Go.Bd.best_foldB]at Q;refine kM Tryz.func256 ?_;intro B X w0;refine fc ?_;refine ac kO aa aa ?_;refine aC _ (dg 6 902 1 rfl rfl) ?_;refine aq (λ(v:Nat)=>v<=m.length) (λ v=>[(0, .d (am m)),(1, .ref 1000 1 0 l.length l.length),(6, .ref 902 1 0 (dr (cJ (au m) m.length f l v)).length (dr (cJ (au m) m.length f l v)).length),(7, .int (dX (cJ (au m) m.length f l v))),(8, .int v)]) (λ v=>[(902, .row 1 ((dr (cJ (au m) m.length f l v)).map aG)),(1000, .row 1 (l.map aG))]) (λ v=>m.length-v) 0 ?_ ?_ ?_
  ·exact uF _
  ·exact kN (aQ @Go.Bd.foldB_zero @dr.eq_1 @dX.eq_1 @uU.{0} @uY.{0,0}) []
  ·intro v hv;rcases uD v m.length with G|hge
   ·have Z:=EJ l v;by_cases M:v∈l
    ·rw[uZ M]at Z;have Y:=Go.Bd.foldB_in (au m) m.length (f:=f) M;refine ac kO (ae @aA) (ae Z) ?_;refine⟨v+1,?_,kN (ae Y) [],?_⟩
     ·omega
     ·omega
    ·rw[uW M]at Z;have U:=S.snoc G M;obtain⟨⟨J,K⟩,V⟩:=Go.Bd.best_some (c:=au m) f (l++[v]) U;have L:=A (l++[v]) U J K V;obtain⟨s,q,g3,_⟩:=Go.Bd.best_bounds F.small I U V;dsimp only at s q g3;simp only[uH,uV,uU,uO,uS,uY,yU]at L;have Y:=Go.Bd.foldB_out (au m) m.length (f:=f) M;rw[V]at Y;have O:=Go.Bd.foldB_bounds F.small I S v hv;rcases E:cJ (au m) m.length f l v with _|⟨z,C⟩<;>rw[E]at Y O
     ·have R:cJ (au m) m.length f l (v+1)=some (J,K):=Y
      repeat' first|refine bt rfl ?_|refine aV ?_|refine dA (Nat.beq 31) ck ?_|(refine rc (Z) rfl ?_ ?_;(· first|rfl|simp(disch:=omega) only[go_sem,simprocAttr,aA,dr,dX,roomy]))|refine rcM [(1000,36),(2000,903)] (L) rfl ?_|(refine bB rfl rfl (λ h=>?_) (λ h=>?_)<;>try simp only[hcL]at h)|(refine bA _ rfl rfl (λ h=>?_) (λ h=>?_)<;>(try simp only[hcL]at h)<;>try omega)|simp(disch:=omega) only[go_sem,simprocAttr,aA,dr,dX,roomy]|(first|exact nw l|exact ji v)|apply And.intro|omega|decide+kernel
      refine⟨v+1,?_,kN (av R @dr.eq_1 @dX.eq_1) [(902,903)],?_⟩
      ·omega
      ·omega
     ·obtain⟨g4,g5,g6⟩:=O _ rfl;dsimp only at g4 g5 g6;by_cases T:K<C
      ·have R:cJ (au m) m.length f l (v+1)=some (J,K):=by rw[Y,b7,if_pos T]
       repeat' first|refine bt rfl ?_|refine aV ?_|refine dA (Nat.beq 31) ck ?_|(refine rc (Z) rfl ?_ ?_;(· first|rfl|simp(disch:=omega) only[go_sem,simprocAttr,aA,dr,dX,roomy,T]))|refine rcM [(1000,36),(2000,903)] (L) rfl ?_|(refine bB rfl rfl (λ h=>?_) (λ h=>?_)<;>try simp only[hcL]at h)|(refine bA _ rfl rfl (λ h=>?_) (λ h=>?_)<;>(try simp only[hcL]at h)<;>try omega)|simp(disch:=omega) only[go_sem,simprocAttr,aA,dr,dX,roomy,T]|(first|exact nw l|exact ji v)|apply And.intro|omega|decide+kernel
       refine⟨v+1,?_,kN (av R @dr.eq_1 @dX.eq_1) [(902,903)],?_⟩
       ·omega
       ·omega
      ·have R:cJ (au m) m.length f l (v+1)=some (z,C):=by rw[Y,b7,if_neg T]
       repeat' first|refine bt rfl ?_|refine aV ?_|refine dA (Nat.beq 31) ck ?_|(refine rc (Z) rfl ?_ ?_;(· first|rfl|simp(disch:=omega) only[go_sem,simprocAttr,aA,dr,dX,roomy,T]))|refine rcM [(1000,36),(2000,903)] (L) rfl ?_|(refine bB rfl rfl (λ h=>?_) (λ h=>?_)<;>try simp only[hcL]at h)|(refine bA _ rfl rfl (λ h=>?_) (λ h=>?_)<;>(try simp only[hcL]at h)<;>try omega)|simp(disch:=omega) only[go_sem,simprocAttr,aA,dr,dX,roomy,T]|(first|exact nw l|exact ji v)|apply And.intro|omega|decide+kernel
       refine⟨v+1,?_,kN (av R @dr.eq_1 @dX.eq_1) [],?_⟩
       ·omega
       ·omega
   ·have:v=m.length:=xA;subst this;rw[Q]
    repeat' first|refine bt rfl ?_|refine aV ?_|refine wR ?_|(refine bB rfl rfl (λ h=>?_) (λ h=>?_)<;>try simp only[hcL]at h)|(refine bA _ rfl rfl (λ h=>?_) (λ h=>?_)<;>(try simp only[hcL]at h)<;>try omega)|simp(disch:=omega) only[go_sem,simprocAttr,dr,dX]|apply And.intro|omega|decide+kernel
    refine⟨_,Ent.trans (Lx 1000) (cI.1 (eL [(2000,902)] [(4, .ref 2000 1 0 b.length b.length),(5, .int k)] [(1000, .gone),(2000, .row 1 (b.map aG))] (by constructor<;>(repeat' first|exact yB _|refine uM.2 ⟨rfl,?_⟩)))),?_⟩;exact⟨⟨_,rfl,rfl,rfl,trivial⟩,uM.2 ⟨rfl,uM.2 ⟨rfl,yB _⟩⟩⟩
theorem Ka (m:List (List Int))(I:Sq m)(L:m.length<=8)(f:Nat)(l:List Nat)(J:Part m.length (f+1) l)(b:List Nat)(k:Int)(hb:cJ (au m) m.length f l m.length=some (b,k)):
  ah Tryz.prog 256 [am m,br l] (.tup [br b, .int k]):=by
 have hll:=J.len;refine kE Tryz.func256 ?_;intro hat B X w0;refine ac kO aa aa ?_;refine aC _ (dg 6 902 1 rfl rfl) ?_;refine aq (λ(v:Nat)=>v<=m.length) (λ v=>[(0, .d (am m)),(1, .d (br l)),(6, .ref 902 1 0 (dr (cJ (au m) m.length f l v)).length (dr (cJ (au m) m.length f l v)).length),(7, .int (dX (cJ (au m) m.length f l v))),(8, .int v)]) (λ v=>[(902, .row 1 ((dr (cJ (au m) m.length f l v)).map aG))]) (λ v=>m.length-v) 0 ?_ ?_ ?_
 ·exact uF _
 ·exact kN (aQ @Go.Bd.foldB_zero @dr.eq_1 @dX.eq_1 @uU.{0} @uY.{0,0}) []
 ·intro v hv;rcases uD v m.length with K|hge
  ·have Z:=EJ l v;by_cases Q:v∈l
   ·rw[uZ Q]at Z;have Y:=Go.Bd.foldB_in (au m) m.length (f:=f) Q;refine ac kO (ae @aA) (ae Z) ?_;refine⟨v+1,?_,kN (ae Y) [],?_⟩
    ·omega
    ·omega
   ·rw[uW Q]at Z;have U:=J.snoc K Q;obtain⟨⟨M,N⟩,V⟩:=Go.Bd.best_some (c:=au m) f (l++[v]) U;have O:=Kd m I L f (l++[v]) U M N V;obtain⟨E,C,A,_⟩:=Go.Bd.best_bounds I.small L U V;dsimp only at E C A;simp only[uH,uV,uU,uO,uS,uY,yU]at O;have Y:=Go.Bd.foldB_out (au m) m.length (f:=f) Q;rw[V]at Y;have R:=Go.Bd.foldB_bounds I.small L J v hv;rcases H:cJ (au m) m.length f l v with _|⟨F,G⟩<;>rw[H]at Y R
    ·have S:cJ (au m) m.length f l (v+1)=some (M,N):=Y
     repeat' first|refine bt rfl ?_|refine aV ?_|refine dA (Nat.beq 31) ck ?_|(refine rc (Z) rfl ?_ ?_;(· first|rfl|simp(disch:=omega) only[go_sem,simprocAttr,aA,dr,dX,roomy]))|refine rcM [(1000,36),(2000,903)] (O) rfl ?_|(refine bB rfl rfl (λ h=>?_) (λ h=>?_)<;>try simp only[hcL]at h)|(refine bA _ rfl rfl (λ h=>?_) (λ h=>?_)<;>(try simp only[hcL]at h)<;>try omega)|simp(disch:=omega) only[go_sem,simprocAttr,aA,dr,dX,roomy]|(first|exact nw l|exact ji v)|apply And.intro|omega|decide+kernel
     refine⟨v+1,?_,kN (av S @dr.eq_1 @dX.eq_1) [(902,903)],?_⟩
     ·omega
     ·omega
    ·obtain⟨z,s,q⟩:=R _ rfl;dsimp only at z s q;by_cases T:N<G
     ·have S:cJ (au m) m.length f l (v+1)=some (M,N):=by rw[Y,b7,if_pos T]
      repeat' first|refine bt rfl ?_|refine aV ?_|refine dA (Nat.beq 31) ck ?_|(refine rc (Z) rfl ?_ ?_;(· first|rfl|simp(disch:=omega) only[go_sem,simprocAttr,aA,dr,dX,roomy,T]))|refine rcM [(1000,36),(2000,903)] (O) rfl ?_|(refine bB rfl rfl (λ h=>?_) (λ h=>?_)<;>try simp only[hcL]at h)|(refine bA _ rfl rfl (λ h=>?_) (λ h=>?_)<;>(try simp only[hcL]at h)<;>try omega)|simp(disch:=omega) only[go_sem,simprocAttr,aA,dr,dX,roomy,T]|(first|exact nw l|exact ji v)|apply And.intro|omega|decide+kernel
      refine⟨v+1,?_,kN (av S @dr.eq_1 @dX.eq_1) [(902,903)],?_⟩
      ·omega
      ·omega
     ·have S:cJ (au m) m.length f l (v+1)=some (F,G):=by rw[Y,b7,if_neg T]
      repeat' first|refine bt rfl ?_|refine aV ?_|refine dA (Nat.beq 31) ck ?_|(refine rc (Z) rfl ?_ ?_;(· first|rfl|simp(disch:=omega) only[go_sem,simprocAttr,aA,dr,dX,roomy,T]))|refine rcM [(1000,36),(2000,903)] (O) rfl ?_|(refine bB rfl rfl (λ h=>?_) (λ h=>?_)<;>try simp only[hcL]at h)|(refine bA _ rfl rfl (λ h=>?_) (λ h=>?_)<;>(try simp only[hcL]at h)<;>try omega)|simp(disch:=omega) only[go_sem,simprocAttr,aA,dr,dX,roomy,T]|(first|exact nw l|exact ji v)|apply And.intro|omega|decide+kernel
      refine⟨v+1,?_,kN (av S @dr.eq_1 @dX.eq_1) [],?_⟩
      ·omega
      ·omega
  ·have:v=m.length:=xA;subst this;rw[hb]
   repeat' first|refine bt rfl ?_|refine aV ?_|refine wR ?_|(refine bB rfl rfl (λ h=>?_) (λ h=>?_)<;>try simp only[hcL]at h)|(refine bA _ rfl rfl (λ h=>?_) (λ h=>?_)<;>(try simp only[hcL]at h)<;>try omega)|simp(disch:=omega) only[go_sem,simprocAttr,dr,dX]|apply And.intro|omega|decide+kernel
   exact⟨_,rfl,bZ (o:=902) rfl rfl xB (aA _ _),ap rfl,trivial⟩
theorem Kb (m:List (List Int))(l:List Nat)(T:Sq m)(Y:m.length<=8)(U:∀v,v∈l->v<m.length)(h:l.length=m.length):ah Tryz.prog 256 [am m,br l] (.tup [br l, .int (aI (au m) l)]):=by
 have Z:=Ij m l T Y U xA;refine kE Tryz.func256 ?_;intro V B X S;refine ac kO (ae h) (ae Z) ?_;exact⟨_,rfl,dH rfl,ap rfl,trivial⟩
theorem oN (n:Nat):Part n n []:=⟨zL,λ v h=>absurd h gV,xB⟩
def df (m:List (List Int)):List Nat×Int:=(co (au m) m.length m.length []).getD ([],0)
theorem q7 (m:List (List Int)):co (au m) m.length m.length []=some (df m):=by
 obtain⟨s,h⟩:=Go.Bd.best_some (c:=au m) m.length [] (oN _);rw[df,h];rfl
theorem J9 (m:List (List Int))(V:Sq m)(Y:m.length<=8):ah Tryz.prog 256 [am m, .sl []] (.tup [br (df m).1, .int (df m).2]):=by
 have h:=q7 m;have X:=oN m.length;rcases Z:m.length with _|f
 ·rw[Z,co]at h;have U:=Kb m [] V Y (λ v T=>absurd T gV) (by rw[Z];rfl);rw[yM]at h;rw[<-h];exact U
 ·rw[Z]at h X;rw[Go.Bd.best_foldB]at h;rw[<-Z]at h;exact Ka m V Y f [] (by rw[Z];exact X) _ _ h
theorem P6 (m:List (List Int)):ah Tryz.prog 229 [am m] (if okM m then .tup [br (df m).1, .int (df m).2, .int 0]else .tup [.sl [], .int 0, .int 1]):=by
 have Y:=Qr m;rcases h:okM m with _|_<;>rw[h]at Y
 ·rw[if_neg xC];refine kE Tryz.func229 ?_;intro Z B X S;refine ac kO aa (ae Y) ?_;exact⟨_,rfl,dH rfl,ap rfl,ap rfl,trivial⟩
 ·rw[if_pos rfl];obtain⟨T,V⟩:=rU h;have U:=J9 m T V;refine kE Tryz.func229 ?_;intro Z B X S;refine ac kO aa (ai Y U) ?_;exact⟨_,rfl,dH rfl,ap rfl,ap rfl,trivial⟩
end Go.Proofs.YtjjbhjnpeenbkaaGreatDoor
namespace Go.Proofs.YtjjbhjnpeenbkaaGreatDoor
open Go Go.PS Go.Proofs
open Go.Bd (sm aI cu low Part co cJ b7 dW dp fu ft fK)
set_option maxRecDepth 100000
attribute [local irreducible] ao wpG ah ax
theorem KS (l:List Nat)(S:l.length<=1000000):ax Tryz.prog 214 [.ref 1000 1 0 l.length l.length] [(1000, .row 1 (l.map aG)),(2000, .dead)] (.ref 2000 1 0 l.length l.length) [(1000, .row 1 (l.map aG)),(2000, .row 1 (l.map aG))]:=by
 rcases gJ (l=[])with rfl|Y
 ·refine kM Tryz.func214 ?_;intro B X T;refine fc ?_;refine ac kO aa aa ?_;refine sf 4 rfl ?_;intro b;cases b
  ·repeat' first|refine bt rfl ?_|refine aV ?_|refine dA (Nat.beq 5) ck ?_|(refine bB rfl rfl (λ h=>?_) (λ h=>?_)<;>try simp only[hcL]at h)|(refine bA _ rfl rfl (λ h=>?_) (λ h=>?_)<;>(try simp only[hcL]at h)<;>try omega)|simp(disch:=omega) only[go_sem,simprocAttr,roomy]|apply And.intro|omega|decide+kernel
   refine⟨_,cI.1 (kN (L:=[(2, .ref 2000 1 0 0 0)]) (M:=[(1000, .row 1 []),(2000, .row 1 [])]) aa [(2000,7)]),?_⟩;exact⟨rfl,uM.2 ⟨rfl,uM.2 ⟨rfl,yB _⟩⟩⟩
  ·refine ac kO aa aa ?_;refine⟨_,Ent.trans (dg 2 7 1 rfl rfl) (cI.1 (eL [(2000,7)] [(2, .ref 2000 1 0 0 0)] [(1000, .row 1 []),(2000, .row 1 [])] (by constructor<;>(repeat' first|exact yB _|refine uM.2 ⟨rfl,?_⟩)))),?_⟩;exact⟨rfl,uM.2 ⟨rfl,uM.2 ⟨rfl,yB _⟩⟩⟩
 ·have U:(l.map aG).isEmpty=false:=by simpa using Y
  have V:0<l.length:=An.2 Y;have Z:l.length≠0:=xA;refine kM Tryz.func214 ?_;intro B X T;refine fc ?_
  repeat' first|refine bt rfl ?_|refine aV ?_|refine dA (Nat.beq 5) ck ?_|(refine bB rfl rfl (λ h=>?_) (λ h=>?_)<;>try simp only[hcL]at h)|(refine bA _ rfl rfl (λ h=>?_) (λ h=>?_)<;>(try simp only[hcL]at h)<;>try omega)|simp(disch:=omega) only[go_sem,simprocAttr,U,roomy,aA,Z]|exact nw l|apply And.intro|omega|decide+kernel
  refine⟨_,cI.1 (kN (L:=[(2, .ref 2000 1 0 l.length l.length)]) (M:=[(1000, .row 1 (l.map aG)),(2000, .row 1 (l.map aG))]) aa [(2000,7)]),?_⟩;exact⟨rfl,uM.2 ⟨rfl,uM.2 ⟨rfl,yB _⟩⟩⟩
def bPV :Option (List Nat×Int)->PV
 |none=> .nilS
 |some s=> .d (br s.1)
def lI :Option (List Nat×Int)->Int
 |none=>0
 |some s=>s.2
theorem D1 (c:Nat->Nat->Int)(n:Nat):∀(f:Nat) (l:List Nat),Part n f l->∀(st:Option (List Nat×Int)) (cost rest:Int),(∀s,st=some s->s.1.length=n)->∀s,dW c n f l cost rest st=some s->s.1.length=n
 |0,l,X,st,cost,rest,h,s,Z=>by
  rw[dW]at Z;split at Z
  ·exact h s Z
  ·cases Z;have:=X.len;dsimp only;omega
 |f+1,l,X,st,cost,rest,h,s,Z=>by
  rw[Go.Bd.ext_foldE]at Z;split at Z
  ·exact h s Z
  ·have V:∀k,k<=n->∀s,dp c n f l cost rest st k=some s->s.1.length=n:=by
    intro k
    induction k with
    |zero=>intro _ s Z;exact h s Z
    |succ k U=>
     intro T s Z;by_cases Y:k∈l
     ·rw[Go.Bd.foldE_in c n Y]at Z;exact U xA s Z
     ·rw[Go.Bd.foldE_out c n Y]at Z;exact D1 c n f (l++[k]) (X.snoc xA Y) _ _ _ (U xA) s Z
   exact V n (uI _) s Z
theorem Ma {c:Nat->Nat->Int}{n f:Nat}{l:List Nat}(V:Part n (f+1) l){st:Option (List Nat×Int)}{cost rest:Int}(h:∀s,st=some s->s.1.length=n):∀k,k<=n->∀s,dp c n f l cost rest st k=some s->s.1.length=n:=by
 intro k
 induction k with
 |zero=>intro _ s Z;exact h s Z
 |succ k X=>
  intro U s Z;by_cases Y:k∈l
  ·rw[Go.Bd.foldE_in c n Y]at Z;exact X xA s Z
  ·rw[Go.Bd.foldE_out c n Y]at Z;exact D1 c n f (l++[k]) (V.snoc xA Y) _ _ _ (X xA) s Z
def lA (m:List (List Int))(f:Nat)(l:List Nat)(st:Option (List Nat×Int))(cost rest:Int):Prop:=
 ax Tryz.prog 179 [.ptr 1000 0 0 0, .int cost, .int rest] [(1000, .cells [.d (am m), .ref 1001 1 0 l.length l.length,bPV st, .int (lI st)]),(1001, .row 1 (l.map aG)),(2000, .dead)] (.tup [])
  [(1000, .cells [.d (am m), .ref 2000 1 0 l.length l.length,bPV (dW (au m) m.length f l cost rest st), .int (lI (dW (au m) m.length f l cost rest st))]),(1001, .gone),(2000, .row 1 (l.map aG))]
structure ExtIn (m:List (List Int))(l:List Nat)(st:Option (List Nat×Int))(cost rest:Int):Prop where
 len:∀s,st=some s->s.1.length=m.length
 pos:0<m.length\/st=none
 c0:0<=cost
 c1:cost<=8000000*l.length
 r0:-8000000*l.length<=rest
 r1:rest<=64000000
theorem D2 (m:List (List Int))(f:Nat)(l:List Nat)(st:Option (List Nat×Int))(cost rest:Int)(Y:ExtIn m l st cost rest)(O:l.length<=8)(h:fK st (cost+rest)=true)(T:dW (au m) m.length f l cost rest st=st):lA m f l st cost rest:=by
 rw[lA,T];rcases st with _|⟨b,k⟩
 ·cases h
 ·have S:k<=cost+rest:=by simpa[fK]using h
  have Z:=Y.len _ rfl;have U:0<m.length:=Y.pos.resolve_right xB;have V:(b.map aG).isEmpty=false:=by
   cases b with
   |nil=>simp at Z;omega
   |cons x b=>rfl
  obtain⟨_,_,R,Q,N,M⟩:=Y;simp only[bPV,lI];refine kM Tryz.func179 ?_;intro B X L;refine fc ?_;refine ac kO (ai V S) aa ?_;refine⟨_,pF 1001 2000 rfl xC xC,?_⟩;exact⟨⟨[],rfl,trivial⟩,uM.2 ⟨by simp[mvG,upd,aL,Ob.ren,PV.ren],uM.2 ⟨rfl,uM.2 ⟨by simp[mvG,upd,aL,Ob.ren,PV.ren],yB _⟩⟩⟩⟩
theorem LF (m:List (List Int))(G:Sq m)(H:m.length<=8)(l:List Nat)(L:Part m.length 0 l)(st:Option (List Nat×Int))(cost rest:Int)(V:ExtIn m l st cost rest)(Y:fK st (cost+rest)=false):lA m 0 l st cost rest:=by
 have M:=L.len;have h:(l.length:Int)=m.length:=xA;have O:dW (au m) m.length 0 l cost rest st=some (l,cost):=by rw[dW,if_neg (by rw[Y];decide)]
 rw[lA,O];have Z:=KS l xA;rcases st with _|⟨b,k⟩
 ·obtain⟨_,_,R,Q,K,J⟩:=V;simp only[bPV,lI];refine kM Tryz.func179 ?_;intro B X I;refine fc ?_;refine ac kO (ae h) (ae (dM [(1000,1001),(2000,905)] Z)) ?_;refine⟨_,Ent.trans (cI.1 (eL [] [] [(1000, .cells [.d (am m), .ref 1001 1 0 l.length l.length, .ref 905 1 0 l.length l.length, .int cost]),(1001, .row 1 (l.map aG)),(905, .row 1 (l.map aG))] (by constructor<;>(repeat' first|exact yB _|refine uM.2 ⟨rfl,?_⟩)))) (Ent.trans (fo 905 1 (l.map aG) rfl (fa _ rfl) xC) (pF 1001 2000 rfl xC xC)),?_⟩;exact⟨⟨[],rfl,trivial⟩,uM.2 ⟨by simp[mvG,upd,aL,Ob.ren,PV.ren,mq,Ob.frz,PV.frzL,PV.frz,aA,h],uM.2 ⟨rfl,uM.2 ⟨by simp[mvG,upd,aL,Ob.ren,PV.ren,mq,Ob.frz],yB _⟩⟩⟩⟩
 ·have N:¬k<=cost+rest:=by simpa[fK]using Y
  have U:=V.len _ rfl;have S:0<m.length:=V.pos.resolve_right xB;have T:(b.map aG).isEmpty=false:=by
   cases b with
   |nil=>simp at U;omega
   |cons x b=>rfl
  obtain⟨_,_,R,Q,K,J⟩:=V;simp only[bPV,lI];refine kM Tryz.func179 ?_;intro B X I;refine fc ?_;refine ac kO (av T N h) (ae (dM [(1000,1001),(2000,905)] Z)) ?_;refine⟨_,Ent.trans (cI.1 (eL [] [] [(1000, .cells [.d (am m), .ref 1001 1 0 l.length l.length, .ref 905 1 0 l.length l.length, .int cost]),(1001, .row 1 (l.map aG)),(905, .row 1 (l.map aG))] (by constructor<;>(repeat' first|exact yB _|refine uM.2 ⟨rfl,?_⟩)))) (Ent.trans (fo 905 1 (l.map aG) rfl (fa _ rfl) xC) (pF 1001 2000 rfl xC xC)),?_⟩;exact⟨⟨[],rfl,trivial⟩,uM.2 ⟨by simp[mvG,upd,aL,Ob.ren,PV.ren,mq,Ob.frz,PV.frzL,PV.frz,aA,h],uM.2 ⟨rfl,uM.2 ⟨by simp[mvG,upd,aL,Ob.ren,PV.ren,mq,Ob.frz],yB _⟩⟩⟩⟩
end Go.Proofs.YtjjbhjnpeenbkaaGreatDoor
