/- Steps of a code's walk that need no choice, by one rule. -/
import Derived.Test.YtjjbhjnpeenbkaaGreatDoorPSFam
import Derived.KernelRfl
import Derived.ProofKit
import Derived.Carry
import Derived.Deep.Slices
import Derived.SizedLaws
import Derived.OpenShut
set_option linter.unusedSimpArgs false
set_option linter.unusedVariables false
set_option maxHeartbeats 16000000
namespace Go.PS
open Go
theorem fmc {Z:Type}{p:Z->Prop}{a:Z}{l:List Z}(h:p a/\∀x,x∈l->p x):∀x,x∈a::l->p x:=uM.2 h
theorem fmn {Z:Type}{p:Z->Prop}:∀x,x∈([]:List Z)->p x:=yB _
section step
variable {P:Program}{B X:Nat->Prop}{w0:W0}{n:Nat}{c:Code}{Q:Exit->St->Prop}{S:St}{G:Prop}
def FO (P:Program)(B X:Nat->Prop)(w0:W0)(n:Nat):Code->(Exit->St->Prop)->St->Option Prop
 | .seq x y,Q,S=>some (PW P B X w0 n x (qj (λ Z=>PW P B X w0 n y Q Z) Q) S)
 | .skip,Q,S=>some (Q .normal S)
 | .exit id,Q,S=>some (Q (.exit id) S)
 | .block id c,Q,S=>some (PW P B X w0 n c (tc id Q) S)
 |_,_,_=>none
theorem bt (h:FO P B X w0 n c Q S=some G)(Z:G):PW P B X w0 n c Q S:=by
 unfold FO at h;split at h<;>first|(injection h with h;subst h)|cases h
 ·exact PL Z
 ·exact PM Z
 ·exact PI Z
 ·exact PH Z
end step
theorem ak {Z:Type}{l:List Z}{k:Nat}(h:k<l.length):∃x,l[k]? =some x:=⟨_,uT h⟩
theorem ay {a b:Bool}(h:a=b):some (D.sc (.bool a))=some (D.bool b):=by rw[h]
theorem ap {a b:Int}(h:a=b):some (D.sc (.int .i64 a))=some (D.int b):=by rw[h]
theorem dH {a b:List D}(h:a=b):some (D.sl a)=some (D.sl b):=by rw[h]
theorem yo {sz:Nat}{a b:List D}(h:a=b):Ob.row sz a=Ob.row sz b:=by rw[h]
theorem bI {Y:List D}{l:List D}(i:Nat)(h:∃w X vs,oa w X Y vs)(V:Y[i]? =some (.sl l)):l.length<=9223372036854775807:=by
 obtain⟨w,X,vs,Q,U⟩:=h;have Z:i<vs.size:=by have:=(uB.1 V).1;omega
 have:=U i _ _ V (yC Z);generalize vs[i]=v at this;cases this with
 |slnil=>simp
 |sl _ b R cap s O T=>simp only[maxLen]at T;omega
theorem cO {V cs:List D}{l:List D}(i j:Nat)(h:∃w X vs,oa w X V vs)(U:V[i]? =some (.ag cs))(T:cs[j]? =some (.sl l)):l.length<=9223372036854775807:=by
 obtain⟨w,X,vs,L,Q⟩:=h;have Z:i<vs.size:=by have:=(uB.1 U).1;omega
 have:=Q i _ _ U (yC Z);generalize vs[i]=v at this;cases this with
 |ag _ arr N R Y=>
  have Z:j<arr.size:=by have:=(uB.1 T).1;omega
  have:=Y j _ _ T (yC Z);generalize arr[j]=v at this;cases this with
  |slnil=>simp
  |sl _ b M cap s J O=>simp only[maxLen]at O;omega
theorem bZ {S:St}{t o sz len cap:Nat}{l Z:List D}(h:S.env t= .ref o sz 0 len cap)(Y:S.objs o= .row sz Z)(X:len<=Z.length)(V:Z.take len=l):toD S.objs 4 (S.env t)=some (.sl l):=by
 rw[h];simp only[toD,Y,yU,Ds,if_pos X,qD,V]
def b8 {Z:Type}(f:Nat->List Z):Nat->List Z
 |0=>[]
 |k+1=>b8 f k++f k
def dK (p:Nat->Bool):Nat->Option Nat
 |0=>none
 |k+1=>match dK p k with|some i=>some i|none=>if p k then some k else none
theorem Ee {p:Nat->Bool}{n k:Nat}(X:k<n)(Z:dK p k=none)(Y:p k=true):dK p n=some k:=by
 induction n with
 |zero=>omega
 |succ n V=>
  rcases qP.1 X with h|rfl
  ·simp[dK,V h]
  ·simp[dK,Z,Y]
theorem Eg {p:Nat->Bool}{k:Nat}(h:dK p k=none)(Z:p k=false):dK p (k+1)=none:=by simp[dK,h,Z]
def iu (e:Nat->Int):Nat->Int
 |0=>0
 |k+1=>if iu e k=0 then e k else iu e k
theorem Eb {e:Nat->Int}{n k:Nat}{c:Int}(V:k<n)(Z:iu e k=0)(Y:e k=c)(X:c≠0):iu e n=c:=by
 induction n with
 |zero=>omega
 |succ n U=>
  rcases qP.1 V with h|rfl
  ·simp[iu,U h,X]
  ·simp[iu,Z,Y]
theorem Ec {e:Nat->Int}{k:Nat}(h:iu e k=0)(Z:e k=0):iu e (k+1)=0:=by simp[iu,h,Z]
theorem d6 {X:Type}{q:X->Bool}{l:List X}(h:∀(j:Nat) y,j<l.length->l[j]? =some y->q y=false):l.any q=false:=by
 rw[Cg];intro V;obtain⟨x,U,Z⟩:=gW.1 V;obtain⟨k,Y⟩:=qA U;rw[h k x (uB.1 Y).1 Y]at Z;cases Z
theorem dk {Z:Type}{q:Z->Bool}{l:List Z}{k:Nat}{x:Z}(h:l[k]? =some x)(Y:q x=true):l.any q=true:=gW.2 ⟨x,uA h,Y⟩
theorem mP {Y:Type}{l m:List Y}{k:Nat}{x y:Y}(X:l[k]? =some x)(Z:m[k]? =some y)(h:x≠y):l≠m:=by
 rintro rfl;rw[X]at Z;cases Z;exact h rfl
theorem jc {Y:Type}{q:Y->Bool}:∀{l:List Y} {k:Nat} {x:Y},l[k]? =some x->q x=true->(∀j y,j<k->l[j]? =some y->q y=false)->l.findIdx? q=some k
 |[],k,x,h,_,_=>by simp at h
 |a::l,0,x,h,Z,_=>by simp at h;subst h;simp[jV,Z]
 |a::l,k+1,x,h,Z,X=>by
  have V:q a=false:=X 0 a xA rfl;have:=jc (l:=l) (k:=k) (x:=x) (by simpa using h) Z (λ j y T U=>X (j+1) y xA (by simpa using U));simp[jV,V,this]
theorem ka {Z:Type}{q:Z->Bool}:∀{l:List Z},(∀(j:Nat) y,l[j]? =some y->q y=false)->l.findIdx? q=none
 |[],_=>rfl
 |a::l,h=>by
  have Y:q a=false:=h 0 a rfl;have:=ka (l:=l) (λ j y X=>h (j+1) y (by simpa using X));simp[jV,Y,this]
def eh :Option Nat->Int
 |some i=>i
 |none=>-1
theorem oB {Z:Type}(q:Z->Bool)(l:List Z):decide (0<=eh (l.findIdx? q))=l.any q:=by
 induction l with
 |nil=>rfl
 |cons a l Y=>
  rw[jV,List.any_cons,<-Y];cases X:q a with
  |true=>simp[eh]
  |false=>
   cases h:l.findIdx? q with
   |none=>simp[eh]
   |some i=>simp only[qK,jH,qB,eh,Cn];congr 1;apply propext;omega
theorem b9 {X:Type}{l:List X}{P:X->Prop}{k:Nat}{x:X}(h:∀(j:Nat) y,j<k->l[j]? =some y->P y)(T:l[k]? =some x)(U:P x):∀(j:Nat) y,j<k+1->l[j]? =some y->P y:=by
 intro j y V Y;rcases qP.1 V with Z|Z
 ·exact h j y Z Y
 ·rw[Z,T]at Y;cases Y;exact U
theorem aM {Z:Type}{l:List Z}{k:Nat}{x:Z}(h:l[k]? =some x):l.take (k+1)=l.take k++[x]:=by
 rw[List.take_add_one,h];rfl
theorem wu (l:List Int):∀d,d∈l.map D.int->∀c,c∈d.cells->c.flat 4=true:=by
 intro d Z c h;obtain⟨p,_,rfl⟩:=uR.1 Z;simp only[D.cells,uX]at h;subst h;rfl
theorem oo {Z:Type}(f:Z->D)(n:Nat)(Y:∀a,(f a).cells.length=n)(l:List Z):∀d,d∈l.map f->d.cells.length=n:=by
 intro d h;obtain⟨p,_,rfl⟩:=uR.1 h;exact Y p
theorem wv {Z:Type}(f:Z->D)(X:∀a,((f a).cells.all (D.flat 4))=true)(l:List Z):∀d,d∈l.map f->∀c,c∈d.cells->c.flat 4=true:=by
 intro d Y c h;obtain⟨p,_,rfl⟩:=uR.1 Y;have:=X p;simp only[yF]at this;exact this c h
theorem aA {Z Y:Type}(f:Z->Y)(l:List Z):(l.map f).take l.length=l.map f:=by
 rw[<-uC (f:=f)];exact yE
theorem hcL :(∀(p:Prop) [Decidable p],(decide p=true)=p)/\(∀(p:Prop) [Decidable p],(decide p=false)=¬p)/\(∀b:Bool,((!b)=true)=(b=false))/\(∀b:Bool,((!b)=false)=(b=true))/\
  (∀a b:Bool,((a&&b)=true)=(a=true/\b=true))/\(∀a b:Bool,((a||b)=true)=(a=true\/b=true))/\(false=true)=False/\(true=false)=False/\(∀p q:Prop,(¬(p/\q))=(p->¬q))/\(∀p q:Prop,(¬(p\/q))=(¬p/\¬q)):=by
 refine⟨?_,?_,?_,?_,?_,?_,?_,?_,?_,?_⟩<;>simp
theorem inL :(∀a b:D,(PV.d a=PV.d b)=(a=b))/\(∀o z f l c V U f' X Z:Nat,(PV.ref o z f l c=PV.ref V U f' X Z)=(o=V/\z=U/\f=f'/\l=X/\c=Z))/\(∀a b:Value,(D.sc a=D.sc b)=(a=b))/\
  (∀(k Y:IntKind) (a b:Int),(Value.int k a=Value.int Y b)=(k=Y/\a=b))/\(∀a b:Bool,(Value.bool a=Value.bool b)=(a=b))/\(∀(n m:Nat) (a b:List D),(Ob.row n a=Ob.row m b)=(n=m/\a=b))/\(∀p:Prop,(True/\p)=p)/\(∀p:Prop,(p/\True)=p):=by
 refine⟨?_,?_,?_,?_,?_,?_,?_,?_⟩<;>simp
section short
variable {P:Program}{own:Nat->Bool}{all rest:List Oper}{S:St}{fs:List cH}{K:St->List cH->Prop}{dst:Option Nat}{ty:TypeId}{pos:String}{af:Array Edge}{f:Operand}{as:Array Operand}{tys:Array TypeId}
theorem rc {g:FuncId}{Z:List D}{r:D}(h:ah P g Z r)(Y:S.ev f= .d (.fn g []))(U:(as.toList.map S.ev).mapM (toD S.objs 4)=some Z)
  (X:ao P own all rest (S.put dst (.d r)) (((as.toList.map S.ev).flatMap (PV.refs S.objs 4),[])::fs) K)(V:(as.toList.map S.ev).flatMap (PV.refs S.objs 4)=[]\/r.flat 4=true:=by first|exact .inl rfl|exact .inr rfl):
  ao P own all (⟨dst, .call ⟨.value f,as,tys⟩,ty,pos,af,none⟩::rest) S fs K:=Rp h Y U V X
theorem rcM (σ:List (Nat×Nat)){h:FuncId}{caps args:List PV}{M Z:List (Nat×Ob)}{r:PV}(N:ax P h args M r Z)(L:m6 (S.ev f)=some (h,caps))
  (J:ao P own all rest (S.app dst ⟨r.ren (gOf σ),et (gOf σ) Z,(as.toList.map S.ev++caps).flatMap (PV.refs S.objs 4)⟩) (((as.toList.map S.ev++caps).flatMap (PV.refs S.objs 4),(et (gOf σ) Z).map (·.1))::fs) K)
  (X:Z.map (·.1)=M.map (·.1):=by rfl) (T:(args.all (PV.only (M.map (·.1)) 4))=true:=by rfl) (U:(M.all λ q=>q.2.only (M.map (·.1)))=true:=by rfl)
  (O:r.only (M.map (·.1)) 4=true:=by rfl) (Y:(Z.all λ q=>q.2.only (M.map (·.1)))=true:=by rfl) (R:(M.map λ q=>gOf σ q.1).Nodup:=by exact cc rfl)
  (Q:∀q∈M,q.2≠ .gone/\(2000<=q.1->q.2= .dead):=by(repeat' first|exact yB _|refine uM.2 ⟨⟨nofun,λ h=>by first|rfl|(simp at h;done)⟩,?_⟩)<;>fail)
  (I:ku S.objs (gOf σ) False (as.toList.map S.ev++caps) args:=by(repeat' first|exact trivial|refine⟨.inl rfl,?_⟩|refine⟨.inr ⟨_,rfl,rfl, .inl rfl⟩,?_⟩)<;>fail)
  (V:∀q∈M,S.objs (gOf σ q.1)=q.2.ren (gOf σ):=by(repeat' first|exact yB _|refine uM.2 ⟨rfl,?_⟩)<;>fail):
  ao P own all (⟨dst, .call ⟨.value f,as,tys⟩,ty,pos,af,none⟩::rest) S fs K:=
 Hr σ N L X T U O Y R Q I V J
theorem eL (σ:List (Nat×Nat))(L:List (Nat×PV))(M:List (Nat×Ob))(h:(∀p∈L,S.env p.1=p.2.ren (gOf σ))/\∀q∈M,S.objs (gOf σ q.1)=q.2.ren (gOf σ))
  (Z:(L.all λ p=>p.2.only (M.map (·.1)) 4)=true:=by rfl) (Y:(M.all λ q=>q.2.only (M.map (·.1)))=true:=by rfl) (X:(M.map λ q=>gOf σ q.1).Nodup:=by exact cc rfl)
  (V:(M.all λ q=>((decide (q.1<1000)||decide (2000<=q.1))&&(decide (gOf σ q.1<1000)||decide (2000<=gOf σ q.1)))||decide (gOf σ q.1=q.1))=true:=by rfl)
  (h7:dT (M.map (·.1)) S.objs:=by(repeat' first|exact mE _ rfl|exact mC|refine mF rfl ?_|refine oO ?_)):mS S L M:=DW σ L M h.1 h.2 Z Y X V h7
theorem eR {B X:Nat->Prop}{Z:W0}{n:Nat}{c:Code}{Q:Exit->St->Prop}(σ:List (Nat×Nat))(L:List (Nat×PV))(M:List (Nat×Ob))(h:(∀p∈L,S.env p.1=p.2.ren (gOf σ))/\∀q∈M,S.objs (gOf σ q.1)=q.2.ren (gOf σ))
  (R:PW P B X Z n c Q ⟨cZ L,aL M⟩)
  (Y:(L.all λ p=>p.2.only (M.map (·.1)) 4)=true:=by rfl) (V:(M.all λ q=>q.2.only (M.map (·.1)))=true:=by rfl) (U:(M.map λ q=>gOf σ q.1).Nodup:=by exact cc rfl)
  (T:(M.all λ q=>((decide (q.1<1000)||decide (2000<=q.1))&&(decide (gOf σ q.1<1000)||decide (2000<=gOf σ q.1)))||decide (gOf σ q.1=q.1))=true:=by rfl)
  (h7:dT (M.map (·.1)) S.objs:=by(repeat' first|exact mE _ rfl|exact mC|refine mF rfl ?_|refine oO ?_)):PW P B X Z n c Q S:=aC _ (wb σ L M h.1 h.2 Y V U T h7) R
theorem eF (Z σ:List (Nat×Nat))(L:List (Nat×PV))(F:List Fam)(M:List (Nat×Ob))
  (h:(∀p∈L,S.env p.1=p.2.ren (gOf σ))/\∀q∈M,S.objs (gOf σ q.1)=q.2.ren (gOf σ))
  (O:∀f∈F,∃r,S.objs (gOf σ f.o)= .cells (bS f.n r)/\∀i,i<f.n->r i= .ref (gOf Z (fid f.j i)) f.sz 0 (f.rows i).length (f.rows i).length/\S.objs (gOf Z (fid f.j i))= .row f.sz (f.rows i))
  (N:∀f∈F,1<=f.j/\f.o<1125899906842624/\f.n<=1125899906842624:=by(repeat' first|exact yB _|refine uM.2 ⟨⟨uQ rfl,uQ rfl,by dsimp only;omega⟩,?_⟩);done)
  (Y:(L.all λ p=>p.2.only (F.map (·.o)++M.map (·.1)) 4)=true:=by rfl) (X:(M.all λ q=>q.2.only (F.map (·.o)++M.map (·.1)))=true:=by rfl)
  (V:((F.map (·.o)++M.map (·.1)).map (gOf σ)++Z.map (·.2)).Nodup:=by exact cc rfl) (U:(F.map (·.j)).Nodup:=by exact cc rfl)
  (T:((F.map (·.o)++M.map (·.1)).all λ i=>(((decide (i<1000)||decide (2000<=i))&&(decide (gOf σ i<1000)||decide (2000<=gOf σ i)))||decide (gOf σ i=i))&&decide (i<1125899906842624)&&decide (gOf σ i<1125899906842624))=true:=by rfl)
  (R:(Z.all λ p=>(decide (p.2<1000)||decide (2000<=p.2))&&decide (p.2<1125899906842624))=true:=by rfl)
  (Q:dT (F.map (·.o)++M.map (·.1)) S.objs:=by(repeat' first|refine xN rfl rfl ?_|refine xP ?_|refine xO rfl ?_|refine mF rfl ?_|refine oO ?_|exact mE _ rfl|exact mC);done):mR S L F M:=
 wa Z σ L F M h.1 h.2 O N Y X V U T R Q
end short
attribute [go_sem] iX cZ aL mV gOf Nat.beq_eq gI yU uI jP gX z7 qj tc forall_eq forall_eq_or_imp
section
variable {P:Program}{own:Nat->Bool}{all rest:List Oper}{S:St}{fs:List cH}{K:St->List cH->Prop}{dst:Option Nat}{ty:TypeId}{pos:String}{af:Array Edge}{f:Operand}{as:Array Operand}{tys:Array TypeId}
end
structure Hd (R:Prop):Prop where
 out:R
structure Bn (A B:Prop):Prop where
 l:A
 r:B
structure MC (σ:List (Nat×Nat))(p:Prop):Prop where
 out:p
structure FC (σ:List (Nat×Nat))(p:Prop):Prop where
 out:p
structure CC (ds caps:List D)(p:Prop):Prop where
 out:p
structure Ow (own:Nat->Bool)(b:Bool):Prop where
 out:True
theorem kO :Ow (λ _=>false) true:=⟨trivial⟩
theorem kP :Ow (λ _=>false) false:=⟨trivial⟩
theorem cE (own:Nat->Bool){b:Bool}:Ow own b:=⟨trivial⟩
section
variable {P:Program}{B X:Nat->Prop}{w0:W0}{n:Nat}{Q:Exit->St->Prop}{S:St}{own:Nat->Bool}{b:Bool}
theorem GG (_o:Ow own true)(h:Q .ret S):PW P B X w0 n .ret Q S:=aV h
theorem GF (_o:Ow own b)(ck:P.follows .mixedOrders=true){id:Nat}{ops:Array Oper}{draw:Bool}
  (h:ao P own ops.toList ops.toList S [] λ S' fs=>oL n ops draw fs.reverse=true/\Q .normal S'):PW P B X w0 n (.region id ops draw) Q S:=dA own ck h
end
structure Ix (n:Nat):Prop where
 out:True
theorem kcu {a b c:Prop}(h:a->b->c):a/\b->c:=λ q=>h q.1 q.2
theorem kix (n:Nat):Ix n:=⟨trivial⟩
theorem kem {n:Nat}(_:Ix n)(i:Nat):i=n\/¬i=n:=gJ _
theorem aa :True:=trivial
theorem kcc (ds caps:List D){p:Prop}(h:p):CC ds caps p:=⟨h⟩
theorem kfc (σ:List (Nat×Nat)){p:Prop}(h:p):FC σ p:=⟨h⟩
theorem dM (σ:List (Nat×Nat)){p:Prop}(h:p):MC σ p:=⟨h⟩
theorem ae {A0:Prop}(x0:A0):A0/\True:=⟨x0,trivial⟩
theorem ai {A0 A1:Prop}(x0:A0)(x1:A1):A0/\A1/\True:=⟨x0,x1,trivial⟩
theorem av {A0 A1 A2:Prop}(x0:A0)(x1:A1)(x2:A2):A0/\A1/\A2/\True:=⟨x0,x1,x2,trivial⟩
theorem aE {A0 A1 A2 A3:Prop}(x0:A0)(x1:A1)(x2:A2)(x3:A3):A0/\A1/\A2/\A3/\True:=⟨x0,x1,x2,x3,trivial⟩
theorem aQ {A0 A1 A2 A3 A4:Prop}(x0:A0)(x1:A1)(x2:A2)(x3:A3)(x4:A4):A0/\A1/\A2/\A3/\A4/\True:=⟨x0,x1,x2,x3,x4,trivial⟩
theorem bq {A0 A1 A2 A3 A4 A5:Prop}(x0:A0)(x1:A1)(x2:A2)(x3:A3)(x4:A4)(x5:A5):A0/\A1/\A2/\A3/\A4/\A5/\True:=⟨x0,x1,x2,x3,x4,x5,trivial⟩
theorem bV {A0 A1 A2 A3 A4 A5 A6:Prop}(x0:A0)(x1:A1)(x2:A2)(x3:A3)(x4:A4)(x5:A5)(x6:A6):A0/\A1/\A2/\A3/\A4/\A5/\A6/\True:=⟨x0,x1,x2,x3,x4,x5,x6,trivial⟩
theorem bj {A0 A1 A2 A3 A4 A5 A6 A7:Prop}(x0:A0)(x1:A1)(x2:A2)(x3:A3)(x4:A4)(x5:A5)(x6:A6)(x7:A7):A0/\A1/\A2/\A3/\A4/\A5/\A6/\A7/\True:=⟨x0,x1,x2,x3,x4,x5,x6,x7,trivial⟩
section calls
variable {P:Program}{own:Nat->Bool}{all rest:List Oper}{S:St}{fs:List cH}{K:St->List cH->Prop}{dst:Option Nat}{ty:TypeId}{pos:String}{af:Array Edge}{f:Operand}{as:Array Operand}{tys:Array TypeId}
theorem ER (h:ao P own all (⟨dst, .call ⟨.value f,as,tys⟩,ty,pos,af,none⟩::rest) S fs K):ao P own all (⟨dst, .call ⟨.value f,as,tys⟩,ty,pos,af,none⟩::rest) S fs K:=h
theorem iF {σ:List (Nat×Nat)}{h:FuncId}{caps args:List PV}{M M':List (Nat×Ob)}{r:PV}(hc:MC σ (ax P h args M r M'))(hf:m6 (S.ev f)=some (h,caps))
  (hk:ao P own all rest (S.app dst ⟨r.ren (gOf σ),et (gOf σ) M',(as.toList.map S.ev++caps).flatMap (PV.refs S.objs 4)⟩) (((as.toList.map S.ev++caps).flatMap (PV.refs S.objs 4),(et (gOf σ) M').map (·.1))::fs) K)
  (hids:M'.map (·.1)=M.map (·.1):=by rfl) (hao:(args.all (PV.only (M.map (·.1)) 4))=true:=by rfl) (hMo:(M.all λ q=>q.2.only (M.map (·.1)))=true:=by rfl)
  (hro:r.only (M.map (·.1)) 4=true:=by rfl) (hMo':(M'.all λ q=>q.2.only (M.map (·.1)))=true:=by rfl) (hnd:(M.map λ q=>gOf σ q.1).Nodup:=by exact cc rfl)
  (hng:∀q∈M,q.2≠ .gone/\(2000<=q.1->q.2= .dead):=by(repeat' first|exact yB _|refine uM.2 ⟨⟨nofun,λ h=>by first|rfl|(simp at h;done)⟩,?_⟩)<;>fail)
  (hx:ku S.objs (gOf σ) False (as.toList.map S.ev++caps) args:=by(repeat' first|exact trivial|refine⟨.inl rfl,?_⟩|refine⟨.inr ⟨_,rfl,rfl, .inl rfl⟩,?_⟩)<;>fail)
  (hobs:∀q∈M,S.objs (gOf σ q.1)=q.2.ren (gOf σ):=by(repeat' first|exact yB _|refine uM.2 ⟨rfl,?_⟩)<;>fail):
  ao P own all (⟨dst, .call ⟨.value f,as,tys⟩,ty,pos,af,none⟩::rest) S fs K:=
 Hr σ hc.out hf hids hao hMo hro hMo' hnd hng hx hobs hk
theorem iE {σ:List (Nat×Nat)}{h:FuncId}{caps args:List PV}{M M':List (Nat×Ob)}{r:PV}(hc:FC σ (ax P h args M r M'))(hf:m6 (S.ev f)=some (h,caps))
  (hk:ao P own all rest (S.app dst ⟨r.ren (gOf σ),et (gOf σ) M',(as.toList.map S.ev++caps).flatMap (PV.refs S.objs 4)⟩) (((as.toList.map S.ev++caps).flatMap (PV.refs S.objs 4),(et (gOf σ) M').map (·.1))::fs) K)
  (hids:M'.map (·.1)=M.map (·.1):=by rfl) (hao:(args.all (PV.only (M.map (·.1)) 4))=true:=by rfl) (hMo:(M.all λ q=>q.2.only (M.map (·.1)))=true:=by rfl)
  (hro:r.only (M.map (·.1)) 4=true:=by rfl) (hMo':(M'.all λ q=>q.2.only (M.map (·.1)))=true:=by rfl) (hnd:(M.map λ q=>gOf σ q.1).Nodup:=by exact cc rfl)
  (hng:∀q∈M,q.2≠ .gone/\(2000<=q.1->q.2= .dead):=by(repeat' first|exact fmn|refine fmc ⟨⟨nofun,λ h=>by first|rfl|(simp at h;done)⟩,?_⟩)<;>fail)
  (hfl:sK r M M':=by refine⟨rfl,?_,?_⟩<;>(repeat' first|exact fmn|refine fmc ⟨?_,?_⟩|exact trivial|exact wu _|exact wv _ (λ _=>rfl) _|(intro d hd c hc;simp[D.flat,D.cells]at*)))
  (hx:ku S.objs (gOf σ) True (as.toList.map S.ev++caps) args:=by(repeat' first|exact trivial|refine⟨.inl rfl,?_⟩|refine⟨.inr ⟨_,rfl,rfl, .inr trivial⟩,?_⟩|refine⟨.inr ⟨_,rfl,(by simp(disch:=omega) only[go_sem,simprocAttr,f];done), .inr trivial⟩,?_⟩)<;>fail)
  (hobs:∀q∈M,S.objs (gOf σ q.1)=q.2.ren (gOf σ):=by(repeat' first|exact fmn|refine fmc ⟨rfl,?_⟩)<;>fail)
  (hre:((as.toList.map S.ev++caps).all λ x=>(x.refs S.objs 4).all λ o=> !(M.map λ q=>gOf σ q.1).contains o)=true:=by rfl):
  ao P own all (⟨dst, .call ⟨.value f,as,tys⟩,ty,pos,af,none⟩::rest) S fs K:=yq σ hc.out hf hids hao hMo hro hMo' hnd hng hfl hx hobs hre hk
theorem nJ {g:FuncId}{ds args caps:List D}{r:D}(hc:CC ds caps (ah P g args r))(hf:S.ev f= .d (.fn g caps))(hx:(as.toList.map S.ev).mapM (toD S.objs 4)=some ds)
  (hk:ao P own all rest (S.put dst (.d r)) (((as.toList.map S.ev).flatMap (PV.refs S.objs 4),[])::fs) K)(ha:args=ds++caps:=by rfl) (hr:(as.toList.map S.ev).flatMap (PV.refs S.objs 4)=[]\/r.flat 4=true:=by first|exact .inl rfl|exact .inr rfl):
  ao P own all (⟨dst, .call ⟨.value f,as,tys⟩,ty,pos,af,none⟩::rest) S fs K:=Ho r ⟨g,caps,ds,hf,hx,ha▸hc.out,hr⟩ hk
end calls
theorem ac {F C G A:Prop}{own:Nat->Bool}{b:Bool}(o:Ow own b)(f:F)(c:C)(r:A)(h:Ow own b->F->C->Hd A->G:=by intro o f c r0;(repeat' first|refine bt rfl ?_|refine GG o ?_|refine GF o ck ?_|(refine ER ?_;first|(refine rc c.1 rfl ?_ ?_;(· first|rfl|simp(disch:=omega) only[go_sem,simprocAttr,yY,roomy,f]))|refine iF c.1 rfl ?_|refine iE c.1 rfl ?_|(refine nJ c.1 rfl ?_ ?_;(· first|rfl|simp(disch:=omega) only[go_sem,simprocAttr,yY,f]))|(refine rc c.2.1 rfl ?_ ?_;(· first|rfl|simp(disch:=omega) only[go_sem,simprocAttr,yY,roomy,f]))|refine iF c.2.1 rfl ?_|refine iE c.2.1 rfl ?_|(refine nJ c.2.1 rfl ?_ ?_;(· first|rfl|simp(disch:=omega) only[go_sem,simprocAttr,yY,f]))|(refine rc c.2.2.1 rfl ?_ ?_;(· first|rfl|simp(disch:=omega) only[go_sem,simprocAttr,yY,roomy,f]))|refine iF c.2.2.1 rfl ?_|refine iE c.2.2.1 rfl ?_|(refine nJ c.2.2.1 rfl ?_ ?_;(· first|rfl|simp(disch:=omega) only[go_sem,simprocAttr,yY,f]))|(refine rc c.2.2.2.1 rfl ?_ ?_;(· first|rfl|simp(disch:=omega) only[go_sem,simprocAttr,yY,roomy,f]))|refine iF c.2.2.2.1 rfl ?_|refine iE c.2.2.2.1 rfl ?_|(refine nJ c.2.2.2.1 rfl ?_ ?_;(· first|rfl|simp(disch:=omega) only[go_sem,simprocAttr,yY,f]))|(refine rc c.2.2.2.2.1 rfl ?_ ?_;(· first|rfl|simp(disch:=omega) only[go_sem,simprocAttr,yY,roomy,f]))|refine iF c.2.2.2.2.1 rfl ?_|refine iE c.2.2.2.2.1 rfl ?_|(refine rc c.2.2.2.2.2.1 rfl ?_ ?_;(· first|rfl|simp(disch:=omega) only[go_sem,simprocAttr,yY,roomy,f]))|refine iF c.2.2.2.2.2.1 rfl ?_|refine iE c.2.2.2.2.2.1 rfl ?_|(refine rc c.2.2.2.2.2.2.1 rfl ?_ ?_;(· first|rfl|simp(disch:=omega) only[go_sem,simprocAttr,yY,roomy,f]))|refine iF c.2.2.2.2.2.2.1 rfl ?_|refine iE c.2.2.2.2.2.2.1 rfl ?_)|(refine bB rfl rfl (λ hq=>?_) (λ hq=>?_)<;>try simp only[hcL]at hq)|(refine bA _ rfl rfl (λ hq=>?_) (λ hq=>?_)<;>(try simp only[hcL]at hq)<;>try omega)|simp(disch:=omega) only[go_sem,simprocAttr,yY,roomy,f]|exact fb _|exact ji _|(refine oo _ _ ?_ _;intro _;rfl)|apply And.intro|omega|decide+kernel);with_reducible exact Hd.out r0):G:=h o f c ⟨r⟩
theorem kw {F C G A0 A1 A2 A3 A4 A5 A6 A7 A8 A9:Prop}{own:Nat->Bool}{b:Bool}(o:Ow own b)(f:F)(c:C)(r:Bn A0 (Bn A1 (Bn A2 (Bn A3 (Bn A4 (Bn A5 (Bn A6 (Bn A7 (Bn A8 (Bn A9 True))))))))))(h:Ow own b->F->C->Hd A0->Hd A1->Hd A2->Hd A3->Hd A4->Hd A5->Hd A6->Hd A7->Hd A8->Hd A9->G/\True:=by intro o f c r0 r1 r2 r3 r4 r5 r6 r7 r8 r9;refine⟨?_,?_⟩;(· (have hq:=True.intro;(repeat' first|refine bt rfl ?_|refine GG o ?_|refine GF o ck ?_|(refine ER ?_;first|(refine rc c.1 rfl ?_ ?_;(· first|rfl|simp(disch:=omega) only[go_sem,simprocAttr,yY,roomy,f]))|refine iF c.1 rfl ?_|refine iE c.1 rfl ?_|(refine nJ c.1 rfl ?_ ?_;(· first|rfl|simp(disch:=omega) only[go_sem,simprocAttr,yY,f]))|(refine rc c.2.1 rfl ?_ ?_;(· first|rfl|simp(disch:=omega) only[go_sem,simprocAttr,yY,roomy,f]))|refine iF c.2.1 rfl ?_|refine iE c.2.1 rfl ?_|(refine nJ c.2.1 rfl ?_ ?_;(· first|rfl|simp(disch:=omega) only[go_sem,simprocAttr,yY,f]))|(refine rc c.2.2.1 rfl ?_ ?_;(· first|rfl|simp(disch:=omega) only[go_sem,simprocAttr,yY,roomy,f]))|refine iF c.2.2.1 rfl ?_|refine iE c.2.2.1 rfl ?_|(refine nJ c.2.2.1 rfl ?_ ?_;(· first|rfl|simp(disch:=omega) only[go_sem,simprocAttr,yY,f]))|(refine rc c.2.2.2.1 rfl ?_ ?_;(· first|rfl|simp(disch:=omega) only[go_sem,simprocAttr,yY,roomy,f]))|refine iF c.2.2.2.1 rfl ?_|refine iE c.2.2.2.1 rfl ?_|(refine nJ c.2.2.2.1 rfl ?_ ?_;(· first|rfl|simp(disch:=omega) only[go_sem,simprocAttr,yY,f]))|(refine rc c.2.2.2.2.1 rfl ?_ ?_;(· first|rfl|simp(disch:=omega) only[go_sem,simprocAttr,yY,roomy,f]))|refine iF c.2.2.2.2.1 rfl ?_|refine iE c.2.2.2.2.1 rfl ?_|(refine rc c.2.2.2.2.2.1 rfl ?_ ?_;(· first|rfl|simp(disch:=omega) only[go_sem,simprocAttr,yY,roomy,f]))|refine iF c.2.2.2.2.2.1 rfl ?_|refine iE c.2.2.2.2.2.1 rfl ?_|(refine rc c.2.2.2.2.2.2.1 rfl ?_ ?_;(· first|rfl|simp(disch:=omega) only[go_sem,simprocAttr,yY,roomy,f]))|refine iF c.2.2.2.2.2.2.1 rfl ?_|refine iE c.2.2.2.2.2.2.1 rfl ?_)|(refine bB rfl rfl (λ hp=>?_) (λ hp=>?_)<;>(try simp only[hcL]at hp)<;>(replace hq:=And.intro hq hp;clear hp))|(refine bA _ rfl rfl (λ hp=>?_) (λ hp=>?_)<;>(try simp only[hcL]at hp)<;>(try omega)<;>(replace hq:=And.intro hq hp;clear hp))|simp(disch:=omega) only[go_sem,simprocAttr,yY,roomy,f]|exact fb _|exact ji _|(refine oo _ _ ?_ _;intro _;rfl)|apply And.intro|omega|decide+kernel);all_goals (revert hq;(repeat refine kcu ?_);first|(with_reducible exact Hd.out r0)|(with_reducible exact Hd.out r1)|(with_reducible exact Hd.out r2)|(with_reducible exact Hd.out r3)|(with_reducible exact Hd.out r4)|(with_reducible exact Hd.out r5)|(with_reducible exact Hd.out r6)|(with_reducible exact Hd.out r7)|(with_reducible exact Hd.out r8)|(with_reducible exact Hd.out r9))));(· ((try (with_reducible have:Hd True:=r0));(try (with_reducible have:Hd True:=r1));(try (with_reducible have:Hd True:=r2));(try (with_reducible have:Hd True:=r3));(try (with_reducible have:Hd True:=r4));(try (with_reducible have:Hd True:=r5));(try (with_reducible have:Hd True:=r6));(try (with_reducible have:Hd True:=r7));(try (with_reducible have:Hd True:=r8));(try (with_reducible have:Hd True:=r9));exact True.intro))):G:=(h o f c ⟨r.l⟩ ⟨r.r.l⟩ ⟨r.r.r.l⟩ ⟨r.r.r.r.l⟩ ⟨r.r.r.r.r.l⟩ ⟨r.r.r.r.r.r.l⟩ ⟨r.r.r.r.r.r.r.l⟩ ⟨r.r.r.r.r.r.r.r.l⟩ ⟨r.r.r.r.r.r.r.r.r.l⟩ ⟨r.r.r.r.r.r.r.r.r.r.l⟩).1
theorem kN {F:Prop}{S:St}(f:F)(σ:List (Nat×Nat)){L:List (Nat×PV)}{M:List (Nat×Ob)}(h:F->(∀p∈L,S.env p.1=p.2.ren (gOf σ))/\∀q∈M,S.objs (gOf σ q.1)=q.2.ren (gOf σ):=by intro f;refine⟨?_,?_⟩<;>(repeat' first|exact fmn|refine fmc ⟨(by first|rfl|(simp(disch:=omega) only[go_sem,simprocAttr,inL,f];first|done|omega|(congr 1;done))),?_⟩);done)
  (h3:(L.all λ p=>p.2.only (M.map (·.1)) 4)=true:=by rfl) (h4:(M.all λ q=>q.2.only (M.map (·.1)))=true:=by rfl) (h5:(M.map λ q=>gOf σ q.1).Nodup:=by exact cc rfl)
  (h6:(M.all λ q=>((decide (q.1<1000)||decide (2000<=q.1))&&(decide (gOf σ q.1<1000)||decide (2000<=gOf σ q.1)))||decide (gOf σ q.1=q.1))=true:=by rfl)
  (h7:dT (M.map (·.1)) S.objs:=by(repeat' first|exact mE _ rfl|exact mC|refine mF rfl ?_|refine oO ?_)):mS S L M:=DW σ L M (h f).1 (h f).2 h3 h4 h5 h6 h7
theorem kR {F:Prop}{S:St}{P:Program}{B X:Nat->Prop}{w0:W0}{n:Nat}{c:Code}{Q:Exit->St->Prop}(f:F)(σ:List (Nat×Nat))(L:List (Nat×PV))(M:List (Nat×Ob))(hk:PW P B X w0 n c Q ⟨cZ L,aL M⟩)(h:F->(∀p∈L,S.env p.1=p.2.ren (gOf σ))/\∀q∈M,S.objs (gOf σ q.1)=q.2.ren (gOf σ):=by intro f;refine⟨?_,?_⟩<;>(repeat' first|exact fmn|refine fmc ⟨(by first|rfl|(simp(disch:=omega) only[go_sem,simprocAttr,inL,f];first|done|omega|(congr 1;done))),?_⟩);done)
  (h3:(L.all λ p=>p.2.only (M.map (·.1)) 4)=true:=by rfl) (h4:(M.all λ q=>q.2.only (M.map (·.1)))=true:=by rfl) (h5:(M.map λ q=>gOf σ q.1).Nodup:=by exact cc rfl)
  (h6:(M.all λ q=>((decide (q.1<1000)||decide (2000<=q.1))&&(decide (gOf σ q.1<1000)||decide (2000<=gOf σ q.1)))||decide (gOf σ q.1=q.1))=true:=by rfl)
  (h7:dT (M.map (·.1)) S.objs:=by(repeat' first|exact mE _ rfl|exact mC|refine mF rfl ?_|refine oO ?_)):PW P B X w0 n c Q S:=aC _ (wb σ L M (h f).1 (h f).2 h3 h4 h5 h6 h7) hk
theorem kF {F:Prop}{S:St}(f:F)(σf σ:List (Nat×Nat)){L:List (Nat×PV)}{Fs:List Fam}{M:List (Nat×Ob)}(hF:∀f∈Fs,∃r,S.objs (gOf σ f.o)= .cells (bS f.n r)/\∀i,i<f.n->r i= .ref (gOf σf (fid f.j i)) f.sz 0 (f.rows i).length (f.rows i).length/\S.objs (gOf σf (fid f.j i))= .row f.sz (f.rows i))(h:F->(∀p∈L,S.env p.1=p.2.ren (gOf σ))/\∀q∈M,S.objs (gOf σ q.1)=q.2.ren (gOf σ):=by intro f;refine⟨?_,?_⟩<;>(repeat' first|exact fmn|refine fmc ⟨(by first|rfl|(simp(disch:=omega) only[go_sem,simprocAttr,inL,f];first|done|omega|(congr 1;done))),?_⟩);done)
  (hn:∀f∈Fs,1<=f.j/\f.o<1125899906842624/\f.n<=1125899906842624:=by(repeat' first|exact yB _|refine uM.2 ⟨⟨uQ rfl,uQ rfl,by dsimp only;omega⟩,?_⟩);done)
  (c1:(L.all λ p=>p.2.only (Fs.map (·.o)++M.map (·.1)) 4)=true:=by rfl) (c2:(M.all λ q=>q.2.only (Fs.map (·.o)++M.map (·.1)))=true:=by rfl)
  (c3:((Fs.map (·.o)++M.map (·.1)).map (gOf σ)++σf.map (·.2)).Nodup:=by exact cc rfl) (c4:(Fs.map (·.j)).Nodup:=by exact cc rfl)
  (c5:((Fs.map (·.o)++M.map (·.1)).all λ i=>(((decide (i<1000)||decide (2000<=i))&&(decide (gOf σ i<1000)||decide (2000<=gOf σ i)))||decide (gOf σ i=i))&&decide (i<1125899906842624)&&decide (gOf σ i<1125899906842624))=true:=by rfl)
  (c6:(σf.all λ p=>(decide (p.2<1000)||decide (2000<=p.2))&&decide (p.2<1125899906842624))=true:=by rfl)
  (c7:dT (Fs.map (·.o)++M.map (·.1)) S.objs:=by(repeat' first|refine xN rfl rfl ?_|refine xP ?_|refine xO rfl ?_|refine mF rfl ?_|refine oO ?_|exact mE _ rfl|exact mC);done):mR S L Fs M:=wa σf σ L Fs M (h f).1 (h f).2 hF hn c1 c2 c3 c4 c5 c6 c7
theorem kG {F:Prop}{S:St}(f:F)(σf σ:List (Nat×Nat))(L:List (Nat×PV))(Fs:List Fam)(M:List (Nat×Ob))(hF:∀f∈Fs,∃r,S.objs (gOf σ f.o)= .cells (bS f.n r)/\∀i,i<f.n->r i= .ref (gOf σf (fid f.j i)) f.sz 0 (f.rows i).length (f.rows i).length/\S.objs (gOf σf (fid f.j i))= .row f.sz (f.rows i))(h:F->(∀p∈L,S.env p.1=p.2.ren (gOf σ))/\∀q∈M,S.objs (gOf σ q.1)=q.2.ren (gOf σ):=by intro f;refine⟨?_,?_⟩<;>(repeat' first|exact fmn|refine fmc ⟨(by first|rfl|(simp(disch:=omega) only[go_sem,simprocAttr,inL,f];first|done|omega|(congr 1;done))),?_⟩);done)
  (hn:∀f∈Fs,1<=f.j/\f.o<1125899906842624/\f.n<=1125899906842624:=by(repeat' first|exact yB _|refine uM.2 ⟨⟨uQ rfl,uQ rfl,by dsimp only;omega⟩,?_⟩);done)
  (c1:(L.all λ p=>p.2.only (Fs.map (·.o)++M.map (·.1)) 4)=true:=by rfl) (c2:(M.all λ q=>q.2.only (Fs.map (·.o)++M.map (·.1)))=true:=by rfl)
  (c3:((Fs.map (·.o)++M.map (·.1)).map (gOf σ)++σf.map (·.2)).Nodup:=by exact cc rfl) (c4:(Fs.map (·.j)).Nodup:=by exact cc rfl)
  (c5:((Fs.map (·.o)++M.map (·.1)).all λ i=>(((decide (i<1000)||decide (2000<=i))&&(decide (gOf σ i<1000)||decide (2000<=gOf σ i)))||decide (gOf σ i=i))&&decide (i<1125899906842624)&&decide (gOf σ i<1125899906842624))=true:=by rfl)
  (c6:(σf.all λ p=>(decide (p.2<1000)||decide (2000<=p.2))&&decide (p.2<1125899906842624))=true:=by rfl)
  (c7:dT (Fs.map (·.o)++M.map (·.1)) S.objs:=by(repeat' first|refine xN rfl rfl ?_|refine xP ?_|refine xO rfl ?_|refine mF rfl ?_|refine oO ?_|exact mE _ rfl|exact mC);done):mR S L Fs M:=wa σf σ L Fs M (h f).1 (h f).2 hF hn c1 c2 c3 c4 c5 c6 c7
theorem cK {F G:Prop}(f:F)(h:F->G:=by intro f;(repeat' first|exact fmn|refine fmc ⟨?_,?_⟩);(all_goals refine⟨_,(by first|rfl|(simp(disch:=omega) only[go_sem,simprocAttr,f];done)|(simp(disch:=omega) only[go_sem,simprocAttr,f];rfl)),λ i hi=>?_⟩);(all_goals dsimp only at hi|-);(all_goals try (exfalso;omega));(all_goals try (simp(disch:=omega) only[go_sem,simprocAttr,f,dh,di];done))):G:=h f
theorem fG {F G:Prop}(f:F)(p0:Nat)(h:F->Ix p0->G:=by intro f p0;(repeat' first|exact fmn|refine fmc ⟨?_,?_⟩);(all_goals refine⟨_,(by first|rfl|(simp(disch:=omega) only[go_sem,simprocAttr,f];done)|(simp(disch:=omega) only[go_sem,simprocAttr,f];rfl)),λ i hi=>?_⟩);(all_goals dsimp only at hi|-);(all_goals rcases kem p0 i with rfl|hi0);(all_goals try (exfalso;omega));(all_goals try (simp(disch:=omega) only[go_sem,simprocAttr,f,dh,di];done));(all_goals try (simp(disch:=omega) only[go_sem,simprocAttr,f,hi0,dh,di];done))):G:=h f (kix p0)
theorem kT2 {F G:Prop}(f:F)(p0:Nat)(p1:Nat)(h:F->Ix p0->Ix p1->G:=by intro f p0 p1;(repeat' first|exact fmn|refine fmc ⟨?_,?_⟩);(all_goals refine⟨_,(by first|rfl|(simp(disch:=omega) only[go_sem,simprocAttr,f];done)|(simp(disch:=omega) only[go_sem,simprocAttr,f];rfl)),λ i hi=>?_⟩);(all_goals dsimp only at hi|-);(all_goals rcases kem p0 i with rfl|hi0);(all_goals rcases kem p1 i with rfl|hi1);(all_goals try (exfalso;omega));(all_goals try (simp(disch:=omega) only[go_sem,simprocAttr,f,dh,di];done));(all_goals try (simp(disch:=omega) only[go_sem,simprocAttr,f,hi0,dh,di];done));(all_goals try (simp(disch:=omega) only[go_sem,simprocAttr,f,hi1,dh,di];done));(all_goals try (simp(disch:=omega) only[go_sem,simprocAttr,f,hi0,hi1,dh,di];done))):G:=h f (kix p0) (kix p1)
theorem kE {P:Program}{f:FuncId}{fn:Func}{c:Code}{args:List D}{r:D}(hf:P.funcs[f]? =some fn)
  (h:(∃w X vs,oa w X args vs)->∀B X w0,PW P B X w0 fn.ntmps c (AM P fn.results.toList r) ⟨iX 0 args,λ _=> .dead⟩)(hb:fn.body=some c:=by rfl) (hn:(fn.name== "runtime.NumGoroutine")=false:=by decide+kernel) (hl:args.length<=fn.ntmps:=by exact uQ rfl):ah P f args r:=Kv hf hb hn hl h
theorem kM {P:Program}{f:FuncId}{fn:Func}{c:Code}{args:List PV}{M M':List (Nat×Ob)}{r:PV}(hf:P.funcs[f]? =some fn)
  (h:∀B X w0,PW P B X w0 fn.ntmps c (AN P fn.results.toList r M') ⟨mV 0 args,aL M⟩)(hb:fn.body=some c:=by rfl) (hn:(fn.name== "runtime.NumGoroutine")=false:=by decide+kernel) (hl:args.length<=fn.ntmps:=by exact uQ rfl)
  (hids:M'.map (·.1)=M.map (·.1):=by rfl) (hnd:(M.map (·.1)).Nodup:=by exact cc rfl) (hro:r.only (M.map (·.1)) 4=true:=by rfl) (hMo':(M'.all λ q=>q.2.only (M.map (·.1)))=true:=by rfl)
  (hpass:(M.all λ q=>(match q.2 with| .dead=>true|_=>false)||(decide (1000<=q.1)&&decide (q.1<2000)))=true:=by rfl):ax P f args M r M':=CY hf hb hn hl hids hnd hro hMo' hpass h
end Go.PS
namespace Go.PS
open Go Go.ChangeShapes Go.WideShapes Go.RowKit Go.Deep
def o6 (f:TypeId->List D->Prop):List TypeId->List D->Prop
 |[],Z=>Z=[]
 |t::Y,Z=>∃p r,Z=p++r/\f t p/\o6 f Y r
def dc (P:Program):Nat->TypeId->List D->Prop
 |0,_,_=>False
 |n+1,t,Z=>match P.underlying t with
  |some (.int k)=>∃m,Z=[.sc (.int k m)]/\(Lit.int k m).wf=true
  |some .bool=>∃b,Z=[.sc (.bool b)]
  |some .string=>∃s,Z=[.sc (.string s)]
  |some (.struct X)=>o6 (dc P n) (X.toList.map (·.type)) Z
  |some (.array k e)=>o6 (dc P n) (List.replicate k e) Z
  |some (.slice e)=>∃l:List D,Z=[.sl l]/\l.length*P.bytesOf e<=reachBytes/\∀d∈l,∃Y,d=D.ofCells (tyi P e).agg Y/\Y.length=P.cellsOf e/\dc P n e Y
  |_=>False
def H4 (P:Program)(t:TypeId):Option (List TypeId):=match P.underlying t with
 |some (.struct Z)=>some (Z.toList.map (·.type))
 |_=>none
def HV (P:Program)(t:TypeId):Option TypeId:=match P.underlying t with
 |some (.slice e)=>some e
 |_=>none
theorem pz {P:Program}{n:Nat}{t:TypeId}{ts:List TypeId}{cs:List D}(Z:H4 P t=some ts)(h:dc P (n+1) t cs):o6 (dc P n) ts cs:=by
 unfold H4 at Z;split at Z
 ·rename_i X Y;cases Z;simp only[dc,Y]at h;exact h
 ·cases Z
theorem te {P:Program}{n:Nat}{t e:TypeId}{cs:List D}(Z:HV P t=some e)(h:dc P (n+1) t cs):
  ∃l:List D,cs=[.sl l]/\∀d∈l,∃Y,d=D.ofCells (tyi P e).agg Y/\Y.length=P.cellsOf e/\dc P n e Y:=by
 unfold HV at Z;split at Z
 ·rename_i T U;cases Z;simp only[dc,U]at h;obtain⟨l,X,_,V⟩:=h;exact⟨l,X,V⟩
 ·cases Z
theorem rJ {Y:Type}{f:Y->D}:∀{l:List D},(∀d∈l,∃a,d=f a)->∃Z:List Y,l=Z.map f
 |[],_=>⟨[],rfl⟩
 |d::l,h=>by
  obtain⟨a,rfl⟩:=h d xB;obtain⟨Z,rfl⟩:=rJ (l:=l) (λ e X=>h e (uP _ X));exact⟨a::Z,rfl⟩
def nq (P:Program):Nat->List Field->Option Nat
 |k,[]=>some k
 |k,f::Z=>if f.offset=k then nq P (k+P.cellsOf f.type) Z else none
def fw (P:Program):Nat->TypeId->Bool
 |0,_=>false
 |n+1,t=>match P.underlying t with
  |some (.int _)=>P.cellsOf t==1&& !(tyi P t).agg
  |some .bool=>P.cellsOf t==1&& !(tyi P t).agg
  |some .string=>P.cellsOf t==1&& !(tyi P t).agg
  |some (.struct Z)=>Z.toList.all (λ f=>fw P n f.type)&&nq P 0 Z.toList==some (P.cellsOf t)&&(tyi P t).agg
  |some (.slice e)=>fw P n e&&P.cellsOf t==1&& !(tyi P t).agg&&P.cellsOf e != 0
  |some (.array k e)=>fw P n e&&k*P.cellsOf e==P.cellsOf t&&(tyi P t).agg
  |_=>false
theorem Ps {P:Program}:∀{n:Nat} {t:TypeId},fw P n t=true->(tyi P t).agg=false->P.cellsOf t=1:=by
 intro n t h Z;cases n with
 |zero=>simp[fw]at h
 |succ n=>
  simp only[fw]at h;split at h<;>simp_all
theorem Ni {P:Program}:∀(Z:List Field) (k e:Nat),nq P k Z=some e->k<=e:=by
 intro Z
 induction Z with
 |nil=>intro k e h;simp[nq]at h;omega
 |cons f Z Y=>
  intro k e h;simp only[nq]at h;split at h
  ·have:=Y _ _ h;omega
  ·cases h
section reads
variable {H:Type}{enc:TypeId×Value->H}{P:Program}{w:World}{base:Nat}{spare:Nat->Bool}{held:Bool}
abbrev noX :Nat->Prop:=λ _=>False
def Fit (w:World)(Z:List D)(cs:List Value):Prop:=Z.length=cs.length/\∀(j:Nat) d v,Z[j]? =some d->cs[j]? =some v->D.At w noX d v/\v.oneCell'=true
theorem Fit.nil :Fit w [] []:=⟨rfl,xB⟩
theorem Fit.append {V U:List D}{cs vs:List Value}(X:Fit w V cs)(T:Fit w U vs):Fit w (V++U) (cs++vs):=by
 refine⟨by simp[X.1,T.1],λ j d v Z Y=>?_⟩;rw[jL]at Z Y;rw[X.1]at Z;split at Z
 ·rename_i h;rw[if_pos h]at Y;exact X.2 j d v Z Y
 ·rename_i h;rw[if_neg h]at Y;exact T.2 _ d v Z Y
theorem Fit.cells {Z:List D}{vs:List Value}(h:Fit w Z vs):∀e∈Z,e.cells=[e]:=by
 intro e U;obtain⟨j,Y⟩:=qA U;have T:=(uB.1 Y).1;have S:vs[j]? =some (vs[j]'(by rw[<-h.1];exact T)):=uT _;obtain⟨X,V⟩:=h.2 j e _ Y S;exact X.single V
theorem xy {agg:Bool}{Z:List D}{vs:List Value}(h:Fit w Z vs)(Y:agg=false->Z.length=1):(D.ofCells agg Z).cells=Z:=by
 unfold D.ofCells;cases agg with
 |true=>rfl
 |false=>
  match Z,Y rfl,h with
  |[e],_,h=>exact h.cells e xB
def j2 (P:Program)(t:TypeId)(d:DataW H):Prop:=(d.weights P t).all (·<=reachBytes)=true
theorem yz {e:TypeId}:∀{l:List (DataW H)},(DataW.weightsAll P e l).all (·<=reachBytes)=true->∀d∈l,j2 P e d
 |[],_,d,Z=>by cases Z
 |x::l,h,d,Z=>by
  simp only[DataW.weightsAll,List.all_append,uN]at h;rcases yI.1 Z with rfl|Z
  ·exact h.1
  ·exact yz h.2 d Z
theorem HS {ts:List TypeId}{Z:List (DataW H)}(h:(DataW.weightsEach P ts Z).all (·<=reachBytes)=true){j:Nat}{t:TypeId}{d:DataW H}(V:ts[j]? =some t)(Y:Z[j]? =some d):j2 P t d:=
 yF.2 λ n X=>yF.1 h n (DataW.weights_mem_each V Y n X)
theorem LN {n m:Nat}{cs:List Value}(E:∀(t:TypeId) (cs:List Value) x,fw P n t=true->DataW.trod enc P w base spare held m t cs=some x->j2 P t x.1->∃X,dc P n t X/\Fit w X cs):
  ∀(Z:List Field) (k e:Nat),nq P k Z=some e->e=cs.length->(∀f∈Z,fw P n f.type=true)->
   (∀f∈Z,∃x,DataW.trod enc P w base spare held m f.type ((cs.drop f.offset).take (P.cellsOf f.type))=some x/\j2 P f.type x.1)->
   ∃X,o6 (dc P n) (Z.map (·.type)) X/\Fit w X (cs.drop k):=by
 intro Z
 induction Z with
 |nil=>
  intro k e h N _ _;simp only[nq,yM]at h;refine⟨[],rfl,?_⟩;rw[kZ xA];exact Fit.nil
 |cons f Z S=>
  intro k e h N M L;simp only[nq]at h;split at h
  ·rename_i V;have G:=Ni _ _ _ h;obtain⟨x,F,T⟩:=L f xB;obtain⟨R,K,O⟩:=E f.type _ x (M f xB) F T;obtain⟨Q,J,I⟩:=S _ _ h N (λ U Y=>M U (uP _ Y)) (λ U Y=>L U (uP _ Y));refine⟨R++Q,⟨R,Q,rfl,K,J⟩,?_⟩;rw[V]at O;have:=O.append I;rw[<-List.drop_drop,gR]at this;exact this
  ·cases h
theorem O7 {n m:Nat}{cs:List Value}{e:TypeId}(L:∀(t:TypeId) (cs:List Value) x,fw P n t=true->DataW.trod enc P w base spare held m t cs=some x->j2 P t x.1->∃Z,dc P n t Z/\Fit w Z cs)(N:fw P n e=true):
  ∀(k j:Nat),(k+j)*P.cellsOf e=cs.length->
   (∀i,i<k+j->∃x,DataW.trod enc P w base spare held m e ((cs.drop (i*P.cellsOf e)).take (P.cellsOf e))=some x/\j2 P e x.1)->
   ∃Z,o6 (dc P n) (List.replicate k e) Z/\Fit w Z (cs.drop (j*P.cellsOf e)):=by
 intro k
 induction k with
 |zero=>
  intro j h _;refine⟨[],rfl,?_⟩;rw[kZ (by rw[yU]at h;omega)];exact Fit.nil
 |succ k X=>
  intro j h T;obtain⟨x,M,Y⟩:=T j xA;obtain⟨V,S,R⟩:=L e _ x N M Y;obtain⟨U,Q,O⟩:=X (j+1) (by rw[<-h];congr 1;omega) (λ i K=>T i xA);refine⟨V++U,⟨V,U,rfl,S,Q⟩,?_⟩;have:=R.append O;rw[qN,Dt,<-List.drop_drop,gR]at this;exact this
theorem Tt :∀(n:Nat) (t:TypeId) (m:Nat) (cs:List Value) x,fw P n t=true->DataW.trod enc P w base spare held m t cs=some x->j2 P t x.1->∃ds,dc P n t ds/\Fit w ds cs:=by
 intro n
 induction n with
 |zero=>intro t m cs x h;simp[fw]at h
 |succ n ih=>
  intro t m cs x F h R;simp only[fw]at F;simp only[dc];split at F
  ·rename_i k O;simp only[O];obtain⟨q,rfl,rfl,hw⟩:=DataW.trod_int O h;refine⟨[.sc (.int k q)],⟨q,rfl,hw⟩,rfl,λ j d v T S=>?_⟩;rcases j with _|j<;>simp at T S
   subst T;subst S;exact⟨.sc _ rfl,rfl⟩
  ·rename_i O;simp only[O];obtain⟨b,rfl,rfl⟩:=DataW.trod_bool O h;refine⟨[.sc (.bool b)],⟨b,rfl⟩,rfl,λ j d v T S=>?_⟩;rcases j with _|j<;>simp at T S
   subst T;subst S;exact⟨.sc _ rfl,rfl⟩
  ·rename_i O;simp only[O];obtain⟨s,rfl,_⟩:=DataW.trod_string O h;refine⟨[.sc (.string s)],⟨s,rfl⟩,rfl,λ j d v T S=>?_⟩;rcases j with _|j<;>simp at T S
   subst T;subst S;exact⟨.sc _ rfl,rfl⟩
  ·rename_i fs O;simp only[O];simp only[uN,yF,zZ]at F;obtain⟨xs,m',rfl,E,G,hxl,hf⟩:=DataW.trod_struct O h;obtain⟨ds,g1,g2⟩:=LN (cs:=cs) (λ t cs x=>ih t m' cs x) fs.toList 0 _ F.1.2 G.symm F.1.1 (λ f hfm=>by
    obtain⟨i,hi⟩:=qA hfm;have Z:fs[i]? =some f:=by simpa using hi
    have L:i<xs.length:=by rw[hxl];exact(gM.1 Z).1
    refine⟨xs[i],(hf i f Z).trans (uT L),?_⟩;rw[j2,E]at R;simp only[DataW.weights,O]at R;exact HS R (j:=i) (by rw[uJ,hi];rfl) (by rw[uJ,uT L];rfl))
   exact⟨ds,g1,by simpa using g2⟩
  ·rename_i e O;simp only[O];simp only[uN,zZ,yL,De,ne_eq]at F;obtain⟨⟨⟨hpe,_⟩,_⟩,hne⟩:=F;rcases open_slice O h with⟨rfl,rfl⟩|⟨a,len,cap,q,m',Dd,Pl,rfl,hb,hl,hm,hq,E,hi⟩
   ·refine⟨[.sl []],⟨[],rfl,xB,xB⟩,rfl,λ j d v T S=>?_⟩;rcases j with _|j<;>simp at T S
    subst T;subst S;exact⟨.slnil _ _,rfl⟩
   ·have hlq:len<=q:=by rw[hq];split<;>omega
    rw[j2,E]at R;simp only[DataW.weights,O,List.all_cons,uN,List.all_append,uG,uC,kB]at R;have hszl:len*P.bytesOf e<=reachBytes:=gY (yR _ (Nat.le_add_right _ _)) R.1;have hex:∀i,i<len->∃V U,dc P n e V/\Fit w V U/\U.length=P.cellsOf e/\∀j,j<P.cellsOf e->w.cell? ((a.add (i*P.cellsOf e)).add j)=U[j]? :=by
     intro i L;obtain⟨cs',M,ht⟩:=hi i xA;obtain⟨V,C,Q⟩:=ih e m' cs' _ hpe ht (yz R.2.1 _ (uR.2 ⟨i,yD.2 L,rfl⟩));obtain⟨_,hcl,hat⟩:=World.cells?_some M;exact⟨V,cs',C,Q,hcl,hat⟩
    have hall:∃l:List (List D),l.length=len/\∀i V,l[i]? =some V->∃U,dc P n e V/\Fit w V U/\U.length=P.cellsOf e/\∀j,j<P.cellsOf e->w.cell? ((a.add (i*P.cellsOf e)).add j)=U[j]? :=by
     have:∀k,k<=len->∃l:List (List D),l.length=k/\∀i V,l[i]? =some V->∃U,dc P n e V/\Fit w V U/\U.length=P.cellsOf e/\∀j,j<P.cellsOf e->w.cell? ((a.add (i*P.cellsOf e)).add j)=U[j]? :=by
      intro k
      induction k with
      |zero=>intro _;exact⟨[],rfl,xB⟩
      |succ k ihk=>
       intro hk;obtain⟨l,C,Q⟩:=ihk xA;obtain⟨V,U,K⟩:=hex k xA;refine⟨l++[V],by simp[C],λ i es' Z=>?_⟩;rw[jL]at Z;split at Z
       ·exact Q i es' Z
       ·rename_i hge;have hik:i-l.length=0:=by
         have:=(uB.1 Z).1;simp at this;omega
        rw[hik]at Z;simp at Z;subst Z;have:i=k:=xA;subst this;exact⟨U,K⟩
     exact this len (uI _)
    obtain⟨l,B,N⟩:=hall;have J:(tyi P e).agg=false->P.cellsOf e=1:=Ps hpe;refine⟨[.sl (l.map (D.ofCells (tyi P e).agg))],⟨_,rfl,by rw[uC,B];exact hszl,λ d hd=>?_⟩,rfl,λ j d v T S=>?_⟩
    ·obtain⟨V,Y,rfl⟩:=uR.1 hd;obtain⟨i,Z⟩:=qA Y;obtain⟨U,C,Q,K,_⟩:=N i V Z;exact⟨V,rfl,by rw[Q.1,K],C⟩
    ·rcases j with _|j<;>simp at T S
     subst T;subst S;refine⟨?_,rfl⟩;by_cases hz:len=0
     ·subst hz;have:l=[]:=qT B;subst this;exact .slnil _ _
     ·
      have h0:a.spot=none:=by
       obtain⟨V,Y⟩:=ak (l:=l) (k:=0) xA;obtain⟨U,C,Q,K,h4⟩:=N 0 V Y;have M:=h4 0 xA;have S:U[0]? =some (U[0]'xA):=uT _;rw[S]at M;simp only[jP]at M;unfold World.cell? at M;split at M
       ·split at M
        ·cases M
        ·rename_i hs;cases hsp:a.spot with
         |none=>rfl
         |some s=>simp[Addr.add,hsp]at hs
       ·cases M
      obtain⟨b,A,sp⟩:=a;simp only at h0;subst h0;have z:∀i j,((⟨b,A,none⟩:Addr).add i).add j=⟨b,A+i+j,none⟩:=λ i j=>by rw[gg,gg]
      have:=D.At.sl (w:=w) (X:=noX) (l.map (D.ofCells (tyi P e).agg)) b A cap (P.cellsOf e) (by simp[B,hl]) hm (λ d hd=>by
        obtain⟨V,Y,rfl⟩:=uR.1 hd;obtain⟨i,Z⟩:=qA Y;obtain⟨U,C,Q,K,_⟩:=N i V Z;rw[xy Q (λ h=>by rw[Q.1,K];exact J h),Q.1,K])
       (λ i j=>(w.cell? ⟨b,A+i*P.cellsOf e+j,none⟩).getD undef)
       (λ i d j c Z T=>by
        rw[uJ]at Z;cases Y:l[i]? with
        |none=>rw[Y]at Z;cases Z
        |some V=>
         rw[Y]at Z;cases Z;obtain⟨U,C,Q,K,h4⟩:=N i V Y;rw[xy Q (λ h=>by rw[Q.1,K];exact J h)]at T;have I:=(uB.1 T).1;rw[Q.1,K]at I;have S:U[j]? =some (U[j]'xA):=uT _;have M:=h4 j I;rw[z,S]at M;rw[M];exact⟨rfl,(Q.2 j c _ T S).2,λ h=>h⟩)
       (λ i d j c Z T=>by
        rw[uJ]at Z;cases Y:l[i]? with
        |none=>rw[Y]at Z;cases Z
        |some V=>
         rw[Y]at Z;cases Z;obtain⟨U,C,Q,K,h4⟩:=N i V Y;rw[xy Q (λ h=>by rw[Q.1,K];exact J h)]at T;have I:=(uB.1 T).1;rw[Q.1,K]at I;have S:U[j]? =some (U[j]'xA):=uT _;have M:=h4 j I;rw[z,S]at M;rw[M];exact(Q.2 j c _ T S).1)
      simp only[uC,B]at this;exact this
  ·rename_i k e O;simp only[O];simp only[uN,zZ]at F;obtain⟨xs,m',rfl,E,G,hxl,hf⟩:=DataW.trod_array O h;obtain⟨ds,g1,g2⟩:=O7 (cs:=cs) (λ t cs x=>ih t m' cs x) F.1.1 k 0 (by rw[gX,F.1.2,G]) (λ i hi=>by
    have L:i<xs.length:=xA;refine⟨xs[i],(hf i xA).trans (uT L),?_⟩;rw[j2,E]at R;simp only[DataW.weights,O]at R;exact yz R _ (uR.2 ⟨xs[i],kJ L,rfl⟩))
   exact⟨ds,g1,by simpa using g2⟩
  ·cases F
theorem Oy {r:Reach}{b:Nat}{t:TypeId}{v:Value}{k:Nat}{e:TypeId}(X:P.underlying t=some (.array k e))(h:Value.okWide P w r b t v):∃cs,v= .agg cs/\cs.size=P.cellsOf t:=by
 unfold Value.okWide at h;rw[X]at h;obtain⟨cs,Z,Y,_⟩:=h;exact⟨cs,Z,Y⟩
def qr (P:Program)(t:TypeId)(x:D):Prop:=∃Z,dc P 8 t Z/\x=D.ofCells (tyi P t).agg Z
theorem JP {r:Reach}{b:Nat}{t:TypeId}{v:Value}{d:DataW H}{p:List MemPlace}(Y:fw P 8 t=true)(U:Value.okWide P w r b t v)(h:DataW.Trod enc P w base spare held t v d p)(R:j2 P t d):
  ∃x,qr P t x/\D.At w noX x v:=by
 obtain⟨O,L⟩:=h;obtain⟨T,M,Z⟩:=Tt 8 t O _ _ Y L R;refine⟨_,⟨T,M,rfl⟩,?_⟩
 replace Y:fw P (7+1) t=true:=Y
 rw[fw]at Y;split at Y
 ·rename_i k V;simp only[uN,zZ,yL]at Y;obtain⟨q,rfl⟩:=okWide_int V U;have X:=Z.1
  match T,X,Z with
  |[e],_,Z=>rw[Y.2];exact(Z.2 0 e _ rfl rfl).1
 ·rename_i V;simp only[uN,zZ,yL]at Y;obtain⟨q,rfl⟩:=okWide_bool V U;have X:=Z.1
  match T,X,Z with
  |[e],_,Z=>rw[Y.2];exact(Z.2 0 e _ rfl rfl).1
 ·rename_i V;simp only[uN,zZ,yL]at Y;obtain⟨q,rfl⟩:=okWide_string V U;have X:=Z.1
  match T,X,Z with
  |[e],_,Z=>rw[Y.2];exact(Z.2 0 e _ rfl rfl).1
 ·rename_i K V;simp only[uN]at Y;obtain⟨Q,rfl,R⟩:=okWide_struct V U;rw[Y.2];have X:T.length=Q.size:=by have:=Z.1;simpa[Value.cells]using this
  refine .ag T Q X.symm (λ j v S=>?_) (λ j e v S U=>?_)
  ·have N:=(gM.1 S).1;exact(Z.2 j _ v (uT xA) (by simpa[Value.cells]using S)).2
  ·exact(Z.2 j e v S (by simpa[Value.cells]using U)).1
 ·rename_i e V;simp only[uN,zZ,yL]at Y;obtain⟨a,len,cap,rfl⟩:=okWide_slice V U;have X:=Z.1
  match T,X,Z with
  |[e],_,Z=>rw[Y.1.2];exact(Z.2 0 e _ rfl rfl).1
 ·rename_i k e V;simp only[uN]at Y;obtain⟨Q,rfl,R⟩:=Oy V U;rw[Y.2];have X:T.length=Q.size:=by have:=Z.1;simpa[Value.cells]using this
  refine .ag T Q X.symm (λ j v S=>?_) (λ j e v S U=>?_)
  ·have N:=(gM.1 S).1;exact(Z.2 j _ v (uT xA) (by simpa[Value.cells]using S)).2
  ·exact(Z.2 j e v S (by simpa[Value.cells]using U)).1
 ·cases Y
theorem JQ {r:Reach}{b:Nat}:∀(ts:List TypeId) (vs:List Value) (X:List (DataW H)) (p:List MemPlace),(∀t∈ts,fw P 8 t=true)->(∀(j:Nat) t v,ts[j]? =some t->vs[j]? =some v->Value.okWide P w r b t v)->
  DataW.TrodAll enc P w base spare held ts vs X p->(∀(j:Nat) t d,ts[j]? =some t->X[j]? =some d->j2 P t d)->∃xs:List D,xs.length=ts.length/\vs.length=ts.length/\X.length=ts.length/\(∀(j:Nat) t x,ts[j]? =some t->xs[j]? =some x->qr P t x)/\∀(j:Nat) x v,xs[j]? =some x->vs[j]? =some v->D.At w noX x v:=by
 intro ts
 induction ts with
 |nil=>
  intro vs X p _ _ h _;cases vs<;>cases X<;>simp[DataW.TrodAll]at h
  exact⟨[],rfl,rfl,rfl,xB,xB⟩
 |cons t ts z=>
  intro vs X p N M h U;cases vs with
  |nil=>simp[DataW.TrodAll]at h
  |cons v vs=>
   cases X with
   |nil=>simp[DataW.TrodAll]at h
   |cons d X=>
    obtain⟨s,q,B,A,_⟩:=h;obtain⟨x,E,C⟩:=JP (N t xB) (M 0 t v rfl rfl) B (U 0 t d rfl rfl);obtain⟨xs,K,J,I,G,F⟩:=z vs X q (λ V S=>N V (uP _ S)) (λ j V Q Z Y=>M (j+1) V Q (by simpa using Z) (by simpa using Y)) A (λ j V L Z T=>U (j+1) V L (by simpa using Z) (by simpa using T));refine⟨x::xs,by simp[K],by simp[J],by simp[I],λ j V O Z R=>?_,λ j O Q Z Y=>?_⟩
    ·cases j with
     |zero=>simp at Z R;subst Z;subst R;exact E
     |succ j=>exact G j V O (by simpa using Z) (by simpa using R)
    ·cases j with
     |zero=>simp at Z Y;subst Z;subst Y;exact C
     |succ j=>exact F j O Q (by simpa using Z) (by simpa using Y)
theorem JR (O:laidOutB P=true){W T:World}(Q:Below W.heap.size W T):∀(ts:List TypeId) (vs:List Value) (Z:List (DataW H)) (p:List MemPlace),(∀t∈ts,P.readableRec t=true/\t<P.types.size)->(∀x∈p,x.block<W.heap.size)->
  DataW.TrodAll enc P W 0 (λ _=>true) true ts vs Z p->DataW.TrodAll enc P T 0 (λ b=>decide (b<W.heap.size)) true ts vs Z p:=by
 intro ts
 induction ts with
 |nil=>intro vs Z p _ _ h;cases vs<;>cases Z<;>simp[DataW.TrodAll]at h|-;exact h
 |cons t ts N=>
  intro vs Z p X Y h;cases vs with
  |nil=>simp[DataW.TrodAll]at h
  |cons v vs=>
   cases Z with
   |nil=>simp[DataW.TrodAll]at h
   |cons d Z=>
    obtain⟨M,q,S,R,rfl⟩:=h;exact⟨M,q,Below.trod O (X t xB).1 (X t xB).2 S Q (λ x U=>Y x (by simp[U])),N vs Z q (λ L V=>X L (uP _ V)) (λ x U=>Y x (by simp[U])) R,rfl⟩
end reads
end Go.PS
