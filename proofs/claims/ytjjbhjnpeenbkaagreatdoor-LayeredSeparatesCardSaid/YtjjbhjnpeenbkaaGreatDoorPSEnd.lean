/- The end of a walk in other names; a row that is cut short. -/
import Derived.Test.YtjjbhjnpeenbkaaGreatDoorPSFam
set_option linter.unusedSimpArgs false
set_option linter.unusedVariables false
set_option maxHeartbeats 16000000
namespace Go.PS
open Go
theorem ZB7 {P:Program}{B X:Nat->Prop}{w0:W0}{n:Nat}{c:Code}{Q:Exit->St->Prop}{S:St}:
  PW P B X w0 n c Q S↔∀a w ι,Hold B X (w0.of P) n S a w ι->c.wp P (λ e a' w'=>∃S' ι',Q e S'/\Hold B X (w0.of P) n S' a' w' ι') a w:=by
 delta PW;exact Iff.rfl
theorem ZtU {P:Program}{B X:Nat->Prop}{w0:W0}{n:Nat}{Q:Exit->St->Prop}{S:St}{id:Nat}(k:Nat)(_hid:Nat.blt id k=true)(own:Nat->Bool)(ZcT:P.follows .mixedOrders=true){ops:Array Oper}{draw:Bool}
  (h:Zad P own ops.toList ops.toList S [] λ S' fs=>Zih n ops draw fs.reverse=true/\Q .normal S'):PW P B X w0 n (.region id ops draw) Q S:=ZgF own ZcT h
theorem Zdn {P:Program}{B X:Nat->Prop}{w0:W0}{n:Nat}{c:Code}{Q:Exit->St->Prop}{S:St}
  (h:PW P B X w0 n c (λ e S'=>∃S'',Ent S' S''/\Q e S'') S):PW P B X w0 n c Q S:=by
 rw[ZB7]at h|-;intro a w ι hS;refine wp_mono (h a w ι hS) ?_;rintro e a' w' ⟨S',ι',⟨S'',he,hq⟩,h2⟩;rw[Zg0]at he;obtain⟨ι'',h3⟩:=he B X (w0.of P) n a' w' ι' h2;exact⟨S'',ι'',hq,h3⟩
theorem Zby {S:St}{L:List (Nat×PV)}{M:List (Nat×Ob)}:ZgQ S L M↔Ent S ⟨Zbz L,Zap M⟩:=by
 delta ZgQ;exact Iff.rfl
theorem Zlr {S:St}(o sz:Nat)(l:List D)(k:Nat)(h2:S.objs o= .row sz l):Ent S ⟨S.env,upd o (.row sz (l.take k)) S.objs⟩:=by
 rw[Zg0];intro B X w0 m a w ι hS;refine⟨ι,hS.size,hS.defers,hS.frame,hS.hB,hS.hXB,λ x y b fx fy ex ey=>?_,hS.free,hS.env,λ q=>?_,hS.stay⟩
 ·have live:∀x,upd o (.row sz (l.take k)) S.objs x≠ .gone->S.objs x≠ .gone:=by
   intro x hx;by_cases he:x=o
   ·rw[he,h2];simp
   ·simp only[upd,if_neg he]at hx;exact hx
  exact hS.inj x y b (live x fx) (live y fy) ex ey
 ·by_cases hq:q=o
  ·subst hq;simp only[upd,if_true];have:=hS.objs q;rw[h2]at this;cases this with
   |row0 _ h=>rw[List.take_nil];exact .row0 _ h
   |row _ _ b c T hι hb hsz hcl hone h=>
    refine .row _ _ b c T hι hb ?_ (λ d hd=>hcl d (gT hd)) hone λ i d j e v hi hj hv=>?_
    ·refine gP (yO _ ?_) hsz;rw[yJ];exact Nat.min_le_right _ _
    ·rw[qH]at hi;split at hi
     ·exact h i d j e v hi hj hv
     ·cases hi
  ·simp only[upd,if_neg hq];exact hS.objs q
theorem PV.At.cap {w:World}{ι:Nat->Option Nat}{X:Nat->Prop}{o sz off len cap cap':Nat}{v:Value}(h:PV.At w ι X (.ref o sz off len cap) v)(hc:cap'<=cap):PV.At w ι X (.ref o sz off len cap') v:=by
 cases h with
 |ref _ _ _ _ _ capr b hι hl hc0 hm hs=>exact .ref o sz off len cap' capr b hι hl (gP hc hc0) hm hs
 |ref0 _ _ _ base=>rw[Nat.le_zero.1 hc];exact .ref0 o sz off base
theorem Zlq {S:St}(q i o sz off len cap cap':Nat){cs:List PV}(h1:S.objs q= .cells cs)(hi:cs[i]? =some (.ref o sz off len cap))(hcap:cap'<=cap):
  Ent S ⟨S.env,upd q (.cells (cs.set i (.ref o sz off len cap'))) S.objs⟩:=by
 rw[Zg0];intro B X w0 m a w ι hS;refine⟨ι,hS.size,hS.defers,hS.frame,hS.hB,hS.hXB,λ x y b fx fy ex ey=>?_,hS.free,hS.env,λ p=>?_,hS.stay⟩
 ·have live:∀x,upd q (.cells (cs.set i (.ref o sz off len cap'))) S.objs x≠ .gone->S.objs x≠ .gone:=by
   intro x hx;by_cases he:x=q
   ·rw[he,h1];simp
   ·simp only[upd,if_neg he]at hx;exact hx
  exact hS.inj x y b (live x fx) (live y fy) ex ey
 ·by_cases hp:p=q
  ·subst hp;simp only[upd,if_true];have:=hS.objs p;rw[h1]at this;cases this with
   |cells _ b c T hι hb hsz hone h=>
    refine .cells _ b c T hι hb (by simpa using hsz) hone λ j x v hx hv=>?_
    rw[qL]at hx;split at hx
    ·rename_i hij;subst hij;split at hx
     ·cases hx;exact(h i _ v hi hv).cap hcap
     ·cases hx
    ·exact h j x v hx hv
  ·simp only[upd,if_neg hp];exact hS.objs p
theorem fmc {α:Type}{p:α->Prop}{a:α}{l:List α}(h:p a/\∀x,x∈l->p x):∀x,x∈a::l->p x:=uK.2 h
theorem fmn {α:Type}{p:α->Prop}:∀x,x∈([]:List α)->p x:=uW _
section step
variable {P:Program}{B X:Nat->Prop}{w0:W0}{n:Nat}{c:Code}{Q:Exit->St->Prop}{S:St}{G:Prop}
def ZsX (P:Program)(B X:Nat->Prop)(w0:W0)(n:Nat):Code->(Exit->St->Prop)->St->Option Prop
 | .seq x y,Q,S=>some (PW P B X w0 n x (Zjp (λ S'=>PW P B X w0 n y Q S') Q) S)
 | .skip,Q,S=>some (Q .normal S)
 | .exit id,Q,S=>some (Q (.exit id) S)
 | .block id c,Q,S=>some (PW P B X w0 n c (Zld id Q) S)
 |_,_,_=>none
theorem ZbQ (h:ZsX P B X w0 n c Q S=some G)(hk:G):PW P B X w0 n c Q S:=by
 unfold ZsX at h;split at h<;>first|(injection h with h;subst h)|cases h
 ·exact ZB9 hk
 ·exact ZCa hk
 ·exact ZB6 hk
 ·exact ZB5 hk
end step
theorem Zac {α:Type}{l:List α}{k:Nat}(h:k<l.length):∃x,l[k]? =some x:=⟨_,uR h⟩
theorem Zah {a b:Bool}(h:a=b):some (D.sc (.bool a))=some (D.bool b):=by rw[h]
theorem Zai {a b:Int}(h:a=b):some (D.sc (.int .i64 a))=some (D.int b):=by rw[h]
theorem Zcm {a b:List D}(h:a=b):some (D.sl a)=some (D.sl b):=by rw[h]
theorem ZoS {sz:Nat}{a b:List D}(h:a=b):Ob.row sz a=Ob.row sz b:=by rw[h]
theorem ZaJ {ds:List D}{l:List D}(i:Nat)(h:∃w X vs,ZhH w X ds vs)(hi:ds[i]? =some (.sl l)):l.length<=9223372036854775807:=by
 obtain⟨w,X,vs,h1,h2⟩:=h;have hlt:i<vs.size:=by have:=(uB.1 hi).1;omega
 have:=h2 i _ _ hi (uU hlt);generalize vs[i]=v at this;cases this with
 |slnil=>simp
 |sl _ b off cap sz hl hc=>simp only[maxLen]at hc;omega
theorem Zcf {ds cs:List D}{l:List D}(i j:Nat)(h:∃w X vs,ZhH w X ds vs)(hi:ds[i]? =some (.ag cs))(hj:cs[j]? =some (.sl l)):l.length<=9223372036854775807:=by
 obtain⟨w,X,vs,h1,h2⟩:=h;have hlt:i<vs.size:=by have:=(uB.1 hi).1;omega
 have:=h2 i _ _ hi (uU hlt);generalize vs[i]=v at this;cases this with
 |ag _ arr hsz hone hat=>
  have hlt:j<arr.size:=by have:=(uB.1 hj).1;omega
  have:=hat j _ _ hj (uU hlt);generalize arr[j]=v at this;cases this with
  |slnil=>simp
  |sl _ b off cap sz hl hc=>simp only[maxLen]at hc;omega
theorem ZbF {S:St}{t o sz len cap:Nat}{l l':List D}(h1:S.env t= .ref o sz 0 len cap)(h2:S.objs o= .row sz l')(h3:len<=l'.length)(h4:l'.take len=l):toD S.objs 4 (S.env t)=some (.sl l):=by
 rw[h1];simp only[toD,h2,qT,Dj,if_pos h3,qR,h4]
def Zdu (p:Nat->Bool):Nat->Bool
 |0=>true
 |k+1=>Zdu p k&&p k
theorem ZmK {p:Nat->Bool}{n:Nat}:Zdu p n=true↔∀k,k<n->p k=true:=by
 induction n with
 |zero=>simp[Zdu]
 |succ n ih=>
  simp only[Zdu,uL,ih];constructor
  ·rintro⟨h1,h2⟩ k hk;rcases yY.1 hk with h|rfl
   ·exact h1 k h
   ·exact h2
  ·intro h;exact⟨λ k hk=>h k (by omega),h n (by omega)⟩
theorem ZmJ {p:Nat->Bool}{n k:Nat}(hk:k<n)(h:p k=false):Zdu p n=false:=by
 cases hq:Zdu p n with
 |false=>rfl
 |true=>rw[ZmK.1 hq k hk]at h;cases h
theorem ZmL {p:Nat->Bool}{k:Nat}(h1:Zdu p k=true)(h2:p k=true):Zdu p (k+1)=true:=by simp[Zdu,h1,h2]
def Za2 {α:Type}(f:Nat->List α):Nat->List α
 |0=>[]
 |k+1=>Za2 f k++f k
def Zb8 (p:Nat->Bool):Nat->Option Nat
 |0=>none
 |k+1=>match Zb8 p k with|some i=>some i|none=>if p k then some k else none
theorem Zrq {p:Nat->Bool}{n k:Nat}(hk:k<n)(h1:Zb8 p k=none)(h2:p k=true):Zb8 p n=some k:=by
 induction n with
 |zero=>omega
 |succ n ih=>
  rcases yY.1 hk with h|rfl
  ·simp[Zb8,ih h]
  ·simp[Zb8,h1,h2]
theorem Zrr {p:Nat->Bool}{k:Nat}(h1:Zb8 p k=none)(h2:p k=false):Zb8 p (k+1)=none:=by simp[Zb8,h1,h2]
def Zd9 (e:Nat->Int):Nat->Int
 |0=>0
 |k+1=>if Zd9 e k=0 then e k else Zd9 e k
theorem Zro {e:Nat->Int}{n k:Nat}{c:Int}(hk:k<n)(h1:Zd9 e k=0)(h2:e k=c)(hc:c≠0):Zd9 e n=c:=by
 induction n with
 |zero=>omega
 |succ n ih=>
  rcases yY.1 hk with h|rfl
  ·simp[Zd9,ih h,hc]
  ·simp[Zd9,h1,h2]
theorem Zrp {e:Nat->Int}{k:Nat}(h1:Zd9 e k=0)(h2:e k=0):Zd9 e (k+1)=0:=by simp[Zd9,h1,h2]
theorem Zc2 {α:Type}{q:α->Bool}{l:List α}(h:∀(j:Nat) y,j<l.length->l[j]? =some y->q y=false):l.any q=false:=by
 rw[zV];intro hq;obtain⟨x,hx,hx2⟩:=gF.1 hq;obtain⟨k,hk⟩:=yU hx;rw[h k x (uB.1 hk).1 hk]at hx2;cases hx2
theorem ZcE {α:Type}{q:α->Bool}{l:List α}{k:Nat}{x:α}(h:l[k]? =some x)(hq:q x=true):l.any q=true:=gF.2 ⟨x,uA h,hq⟩
theorem ZgO {α:Type}{l m:List α}{k:Nat}{x y:α}(h1:l[k]? =some x)(h2:m[k]? =some y)(h:x≠y):l≠m:=by
 rintro rfl;rw[h1]at h2;cases h2;exact h rfl
theorem Zex {α:Type}{q:α->Bool}:∀{l:List α} {k:Nat} {x:α},l[k]? =some x->q x=true->(∀j y,j<k->l[j]? =some y->q y=false)->l.findIdx? q=some k
 |[],k,x,h,_,_=>by simp at h
 |a::l,0,x,h,hq,_=>by simp at h;subst h;simp[jL,hq]
 |a::l,k+1,x,h,hq,hn=>by
  have h0:q a=false:=hn 0 a (by omega) rfl;have:=Zex (l:=l) (k:=k) (x:=x) (by simpa using h) hq (λ j y hj hy=>hn (j+1) y (by omega) (by simpa using hy));simp[jL,h0,this]
theorem Ze3 {α:Type}{q:α->Bool}:∀{l:List α},(∀(j:Nat) y,l[j]? =some y->q y=false)->l.findIdx? q=none
 |[],_=>rfl
 |a::l,hn=>by
  have h0:q a=false:=hn 0 a rfl;have:=Ze3 (l:=l) (λ j y hy=>hn (j+1) y (by simpa using hy));simp[jL,h0,this]
def ZcU :Option Nat->Int
 |some i=>i
 |none=>-1
theorem Zg3 {α:Type}(q:α->Bool)(l:List α):decide (0<=ZcU (l.findIdx? q))=l.any q:=by
 induction l with
 |nil=>rfl
 |cons a l ih=>
  rw[jL,List.any_cons,<-ih];cases hq:q a with
  |true=>simp[ZcU]
  |false=>
   cases hf:l.findIdx? q with
   |none=>simp[ZcU]
   |some i=>simp only[qD,jA,qB,ZcU,Bm];congr 1;apply propext;omega
theorem Zbr {α:Type}{l:List α}{P:α->Prop}{k:Nat}{x:α}(h:∀(j:Nat) y,j<k->l[j]? =some y->P y)(hx:l[k]? =some x)(hp:P x):∀(j:Nat) y,j<k+1->l[j]? =some y->P y:=by
 intro j y hj hy;rcases yY.1 hj with h1|h1
 ·exact h j y h1 hy
 ·rw[h1,hx]at hy;cases hy;exact hp
theorem ZaA {α:Type}{l:List α}{k:Nat}{x:α}(h:l[k]? =some x):l.take (k+1)=l.take k++[x]:=by
 rw[List.take_add_one,h];rfl
theorem ZyF (l:List Int):∀d,d∈l.map D.int->∀c,c∈d.cells->c.flat 4=true:=by
 intro d hd c hc;obtain⟨p,_,rfl⟩:=uP.1 hd;simp only[D.cells,uS]at hc;subst hc;rfl
theorem Zlh {α:Type}(f:α->D)(n:Nat)(hf:∀a,(f a).cells.length=n)(l:List α):∀d,d∈l.map f->d.cells.length=n:=by
 intro d hd;obtain⟨p,_,rfl⟩:=uP.1 hd;exact hf p
theorem ZyG {α:Type}(f:α->D)(hf:∀a,((f a).cells.all (D.flat 4))=true)(l:List α):∀d,d∈l.map f->∀c,c∈d.cells->c.flat 4=true:=by
 intro d hd c hc;obtain⟨p,_,rfl⟩:=uP.1 hd;have:=hf p;simp only[uX]at this;exact this c hc
theorem Zal {α β:Type}(f:α->β)(l:List α):(l.map f).take l.length=l.map f:=by
 rw[<-uC (f:=f)];exact yE
theorem hcL :(∀(p:Prop) [Decidable p],(decide p=true)=p)/\(∀(p:Prop) [Decidable p],(decide p=false)=¬p)/\(∀b:Bool,((!b)=true)=(b=false))/\(∀b:Bool,((!b)=false)=(b=true))/\
  (∀a b:Bool,((a&&b)=true)=(a=true/\b=true))/\(∀a b:Bool,((a||b)=true)=(a=true\/b=true))/\(false=true)=False/\(true=false)=False/\(∀p q:Prop,(¬(p/\q))=(p->¬q))/\(∀p q:Prop,(¬(p\/q))=(¬p/\¬q)):=by
 refine⟨?_,?_,?_,?_,?_,?_,?_,?_,?_,?_⟩<;>simp
theorem inL :(∀a b:D,(PV.d a=PV.d b)=(a=b))/\(∀o z f l c o' z' f' l' c':Nat,(PV.ref o z f l c=PV.ref o' z' f' l' c')=(o=o'/\z=z'/\f=f'/\l=l'/\c=c'))/\(∀a b:Value,(D.sc a=D.sc b)=(a=b))/\
  (∀(k k':IntKind) (a b:Int),(Value.int k a=Value.int k' b)=(k=k'/\a=b))/\(∀a b:Bool,(Value.bool a=Value.bool b)=(a=b))/\(∀(n m:Nat) (a b:List D),(Ob.row n a=Ob.row m b)=(n=m/\a=b))/\(∀p:Prop,(True/\p)=p)/\(∀p:Prop,(p/\True)=p):=by
 refine⟨?_,?_,?_,?_,?_,?_,?_,?_⟩<;>simp
section short
variable {P:Program}{own:Nat->Bool}{all rest:List Oper}{S:St}{fs:List Zbp}{K:St->List Zbp->Prop}{dst:Option Nat}{ty:TypeId}{pos:String}{af:Array Edge}{f:Operand}{as:Array Operand}{tys:Array TypeId}
theorem rc {g:FuncId}{ds:List D}{r:D}(hc:Zaa P g ds r)(hf:S.ev f= .d (.fn g []))(hx:(as.toList.map S.ev).mapM (toD S.objs 4)=some ds)
  (hk:Zad P own all rest (S.put dst (.d r)) (((as.toList.map S.ev).flatMap (PV.refs S.objs 4),[])::fs) K)(hr:(as.toList.map S.ev).flatMap (PV.refs S.objs 4)=[]\/r.flat 4=true:=by first|exact .inl rfl|exact .inr rfl):
  Zad P own all (⟨dst, .call ⟨.value f,as,tys⟩,ty,pos,af,none⟩::rest) S fs K:=ZDa hc hf hx hr hk
theorem rcM (σ:List (Nat×Nat)){h:FuncId}{caps args:List PV}{M M':List (Nat×Ob)}{r:PV}(hc:Zag P h args M r M')(hf:ZgW (S.ev f)=some (h,caps))
  (hk:Zad P own all rest (S.app dst ⟨r.ren (gOf σ),ZcA (gOf σ) M',(as.toList.map S.ev++caps).flatMap (PV.refs S.objs 4)⟩) (((as.toList.map S.ev++caps).flatMap (PV.refs S.objs 4),(ZcA (gOf σ) M').map (·.1))::fs) K)
  (hids:M'.map (·.1)=M.map (·.1):=by rfl) (hao:(args.all (PV.only (M.map (·.1)) 4))=true:=by rfl) (hMo:(M.all λ q=>q.2.only (M.map (·.1)))=true:=by rfl)
  (hro:r.only (M.map (·.1)) 4=true:=by rfl) (hMo':(M'.all λ q=>q.2.only (M.map (·.1)))=true:=by rfl) (hnd:(M.map λ q=>gOf σ q.1).Nodup:=by exact Zb0 rfl)
  (hng:∀q∈M,q.2≠ .gone/\(2000<=q.1->q.2= .dead):=by(repeat' first|exact uW _|refine uK.2 ⟨⟨nofun,λ h=>by first|rfl|(simp at h;done)⟩,?_⟩)<;>fail)
  (hx:Zfl S.objs (gOf σ) False (as.toList.map S.ev++caps) args:=by(repeat' first|exact trivial|refine⟨.inl rfl,?_⟩|refine⟨.inr ⟨_,rfl,rfl, .inl rfl⟩,?_⟩)<;>fail)
  (hobs:∀q∈M,S.objs (gOf σ q.1)=q.2.ren (gOf σ):=by(repeat' first|exact uW _|refine uK.2 ⟨rfl,?_⟩)<;>fail):
  Zad P own all (⟨dst, .call ⟨.value f,as,tys⟩,ty,pos,af,none⟩::rest) S fs K:=
 Zuo σ hc hf hids hao hMo hro hMo' hnd hng hx hobs hk
theorem eL (σ:List (Nat×Nat))(L:List (Nat×PV))(M:List (Nat×Ob))(h:(∀p∈L,S.env p.1=p.2.ren (gOf σ))/\∀q∈M,S.objs (gOf σ q.1)=q.2.ren (gOf σ))
  (h3:(L.all λ p=>p.2.only (M.map (·.1)) 4)=true:=by rfl) (h4:(M.all λ q=>q.2.only (M.map (·.1)))=true:=by rfl) (h5:(M.map λ q=>gOf σ q.1).Nodup:=by exact Zb0 rfl)
  (h6:(M.all λ q=>((decide (q.1<1000)||decide (2000<=q.1))&&(decide (gOf σ q.1<1000)||decide (2000<=gOf σ q.1)))||decide (gOf σ q.1=q.1))=true:=by rfl)
  (h7:Zb5 (M.map (·.1)) S.objs:=by(repeat' first|exact ZgC _ rfl|exact ZgB|refine ZgD rfl ?_|refine Zik ?_)):ZgQ S L M:=Zq8 σ L M h.1 h.2 h3 h4 h5 h6 h7
theorem eR {B X:Nat->Prop}{w0:W0}{n:Nat}{c:Code}{Q:Exit->St->Prop}(σ:List (Nat×Nat))(L:List (Nat×PV))(M:List (Nat×Ob))(h:(∀p∈L,S.env p.1=p.2.ren (gOf σ))/\∀q∈M,S.objs (gOf σ q.1)=q.2.ren (gOf σ))
  (hk:PW P B X w0 n c Q ⟨Zbz L,Zap M⟩)
  (h3:(L.all λ p=>p.2.only (M.map (·.1)) 4)=true:=by rfl) (h4:(M.all λ q=>q.2.only (M.map (·.1)))=true:=by rfl) (h5:(M.map λ q=>gOf σ q.1).Nodup:=by exact Zb0 rfl)
  (h6:(M.all λ q=>((decide (q.1<1000)||decide (2000<=q.1))&&(decide (gOf σ q.1<1000)||decide (2000<=gOf σ q.1)))||decide (gOf σ q.1=q.1))=true:=by rfl)
  (h7:Zb5 (M.map (·.1)) S.objs:=by(repeat' first|exact ZgC _ rfl|exact ZgB|refine ZgD rfl ?_|refine Zik ?_)):PW P B X w0 n c Q S:=Zao _ (Znu σ L M h.1 h.2 h3 h4 h5 h6 h7) hk
theorem eF (σf σ:List (Nat×Nat))(L:List (Nat×PV))(Fs:List Fam)(M:List (Nat×Ob))
  (h:(∀p∈L,S.env p.1=p.2.ren (gOf σ))/\∀q∈M,S.objs (gOf σ q.1)=q.2.ren (gOf σ))
  (hF:∀f∈Fs,∃r,S.objs (gOf σ f.o)= .cells (Za4 f.n r)/\∀i,i<f.n->r i= .ref (gOf σf (fid f.j i)) f.sz 0 (f.rows i).length (f.rows i).length/\S.objs (gOf σf (fid f.j i))= .row f.sz (f.rows i))
  (hn:∀f∈Fs,1<=f.j/\f.o<1125899906842624/\f.n<=1125899906842624:=by(repeat' first|exact uW _|refine uK.2 ⟨⟨yA rfl,yA rfl,by dsimp only;omega⟩,?_⟩);done)
  (c1:(L.all λ p=>p.2.only (Fs.map (·.o)++M.map (·.1)) 4)=true:=by rfl) (c2:(M.all λ q=>q.2.only (Fs.map (·.o)++M.map (·.1)))=true:=by rfl)
  (c3:((Fs.map (·.o)++M.map (·.1)).map (gOf σ)++σf.map (·.2)).Nodup:=by exact Zb0 rfl) (c4:(Fs.map (·.j)).Nodup:=by exact Zb0 rfl)
  (c5:((Fs.map (·.o)++M.map (·.1)).all λ i=>(((decide (i<1000)||decide (2000<=i))&&(decide (gOf σ i<1000)||decide (2000<=gOf σ i)))||decide (gOf σ i=i))&&decide (i<1125899906842624)&&decide (gOf σ i<1125899906842624))=true:=by rfl)
  (c6:(σf.all λ p=>(decide (p.2<1000)||decide (2000<=p.2))&&decide (p.2<1125899906842624))=true:=by rfl)
  (c7:Zb5 (Fs.map (·.o)++M.map (·.1)) S.objs:=by(repeat' first|refine Zoz rfl rfl ?_|refine ZoB ?_|refine ZoA rfl ?_|refine ZgD rfl ?_|refine Zik ?_|exact ZgC _ rfl|exact ZgB);done):ZgP S L Fs M:=
 Znt σf σ L Fs M h.1 h.2 hF hn c1 c2 c3 c4 c5 c6 c7
end short
attribute [go_sem] Zes Zbz Zap ZgT gOf Nat.beq_eq qZ qT uJ jK gX Zpx Zjp Zld forall_eq forall_eq_or_imp
section
variable {P:Program}{own:Nat->Bool}{all rest:List Oper}{S:St}{fs:List Zbp}{K:St->List Zbp->Prop}{dst:Option Nat}{ty:TypeId}{pos:String}{af:Array Edge}{f:Operand}{as:Array Operand}{tys:Array TypeId}
end
structure Hd (R:Prop):Prop where
 out:R
structure Bn (A B:Prop):Prop where
 l:A
 r:B
structure MC (σ:List (Nat×Nat))(p:Prop):Prop where
 out:p
structure FC (σ:List (Nat×Nat))(p:Prop):Prop where
 out:p
structure CC (ds caps:List D)(p:Prop):Prop where
 out:p
structure Ow (own:Nat->Bool)(b:Bool):Prop where
 out:True
theorem kO :Ow (λ _=>false) true:=⟨trivial⟩
theorem kP :Ow (λ _=>false) false:=⟨trivial⟩
theorem kow (own:Nat->Bool){b:Bool}:Ow own b:=⟨trivial⟩
section
variable {P:Program}{B X:Nat->Prop}{w0:W0}{n:Nat}{Q:Exit->St->Prop}{S:St}{own:Nat->Bool}{b:Bool}
theorem ZtW (_o:Ow own true)(h:Q .ret S):PW P B X w0 n .ret Q S:=Za7 h
theorem ZtV (_o:Ow own b)(ZcT:P.follows .mixedOrders=true){id:Nat}{ops:Array Oper}{draw:Bool}
  (h:Zad P own ops.toList ops.toList S [] λ S' fs=>Zih n ops draw fs.reverse=true/\Q .normal S'):PW P B X w0 n (.region id ops draw) Q S:=ZgF own ZcT h
end
structure Ix (n:Nat):Prop where
 out:True
theorem kcu {a b c:Prop}(h:a->b->c):a/\b->c:=λ q=>h q.1 q.2
theorem kix (n:Nat):Ix n:=⟨trivial⟩
theorem kem {n:Nat}(_:Ix n)(i:Nat):i=n\/¬i=n:=gZ _
theorem kc0 :True:=trivial
theorem kcc (ds caps:List D){p:Prop}(h:p):CC ds caps p:=⟨h⟩
theorem kfc (σ:List (Nat×Nat)){p:Prop}(h:p):FC σ p:=⟨h⟩
theorem kmc (σ:List (Nat×Nat)){p:Prop}(h:p):MC σ p:=⟨h⟩
theorem kc1 {A0:Prop}(x0:A0):A0/\True:=⟨x0,trivial⟩
theorem kc2 {A0 A1:Prop}(x0:A0)(x1:A1):A0/\A1/\True:=⟨x0,x1,trivial⟩
theorem kc3 {A0 A1 A2:Prop}(x0:A0)(x1:A1)(x2:A2):A0/\A1/\A2/\True:=⟨x0,x1,x2,trivial⟩
theorem kc4 {A0 A1 A2 A3:Prop}(x0:A0)(x1:A1)(x2:A2)(x3:A3):A0/\A1/\A2/\A3/\True:=⟨x0,x1,x2,x3,trivial⟩
theorem kc5 {A0 A1 A2 A3 A4:Prop}(x0:A0)(x1:A1)(x2:A2)(x3:A3)(x4:A4):A0/\A1/\A2/\A3/\A4/\True:=⟨x0,x1,x2,x3,x4,trivial⟩
theorem kc6 {A0 A1 A2 A3 A4 A5:Prop}(x0:A0)(x1:A1)(x2:A2)(x3:A3)(x4:A4)(x5:A5):A0/\A1/\A2/\A3/\A4/\A5/\True:=⟨x0,x1,x2,x3,x4,x5,trivial⟩
theorem kc7 {A0 A1 A2 A3 A4 A5 A6:Prop}(x0:A0)(x1:A1)(x2:A2)(x3:A3)(x4:A4)(x5:A5)(x6:A6):A0/\A1/\A2/\A3/\A4/\A5/\A6/\True:=⟨x0,x1,x2,x3,x4,x5,x6,trivial⟩
theorem kc8 {A0 A1 A2 A3 A4 A5 A6 A7:Prop}(x0:A0)(x1:A1)(x2:A2)(x3:A3)(x4:A4)(x5:A5)(x6:A6)(x7:A7):A0/\A1/\A2/\A3/\A4/\A5/\A6/\A7/\True:=⟨x0,x1,x2,x3,x4,x5,x6,x7,trivial⟩
section calls
variable {P:Program}{own:Nat->Bool}{all rest:List Oper}{S:St}{fs:List Zbp}{K:St->List Zbp->Prop}{dst:Option Nat}{ty:TypeId}{pos:String}{af:Array Edge}{f:Operand}{as:Array Operand}{tys:Array TypeId}
theorem ZrY (h:Zad P own all (⟨dst, .call ⟨.value f,as,tys⟩,ty,pos,af,none⟩::rest) S fs K):Zad P own all (⟨dst, .call ⟨.value f,as,tys⟩,ty,pos,af,none⟩::rest) S fs K:=h
theorem Zej {σ:List (Nat×Nat)}{h:FuncId}{caps args:List PV}{M M':List (Nat×Ob)}{r:PV}(hc:MC σ (Zag P h args M r M'))(hf:ZgW (S.ev f)=some (h,caps))
  (hk:Zad P own all rest (S.app dst ⟨r.ren (gOf σ),ZcA (gOf σ) M',(as.toList.map S.ev++caps).flatMap (PV.refs S.objs 4)⟩) (((as.toList.map S.ev++caps).flatMap (PV.refs S.objs 4),(ZcA (gOf σ) M').map (·.1))::fs) K)
  (hids:M'.map (·.1)=M.map (·.1):=by rfl) (hao:(args.all (PV.only (M.map (·.1)) 4))=true:=by rfl) (hMo:(M.all λ q=>q.2.only (M.map (·.1)))=true:=by rfl)
  (hro:r.only (M.map (·.1)) 4=true:=by rfl) (hMo':(M'.all λ q=>q.2.only (M.map (·.1)))=true:=by rfl) (hnd:(M.map λ q=>gOf σ q.1).Nodup:=by exact Zb0 rfl)
  (hng:∀q∈M,q.2≠ .gone/\(2000<=q.1->q.2= .dead):=by(repeat' first|exact uW _|refine uK.2 ⟨⟨nofun,λ h=>by first|rfl|(simp at h;done)⟩,?_⟩)<;>fail)
  (hx:Zfl S.objs (gOf σ) False (as.toList.map S.ev++caps) args:=by(repeat' first|exact trivial|refine⟨.inl rfl,?_⟩|refine⟨.inr ⟨_,rfl,rfl, .inl rfl⟩,?_⟩)<;>fail)
  (hobs:∀q∈M,S.objs (gOf σ q.1)=q.2.ren (gOf σ):=by(repeat' first|exact uW _|refine uK.2 ⟨rfl,?_⟩)<;>fail):
  Zad P own all (⟨dst, .call ⟨.value f,as,tys⟩,ty,pos,af,none⟩::rest) S fs K:=
 Zuo σ hc.out hf hids hao hMo hro hMo' hnd hng hx hobs hk
theorem Zei {σ:List (Nat×Nat)}{h:FuncId}{caps args:List PV}{M M':List (Nat×Ob)}{r:PV}(hc:FC σ (Zag P h args M r M'))(hf:ZgW (S.ev f)=some (h,caps))
  (hk:Zad P own all rest (S.app dst ⟨r.ren (gOf σ),ZcA (gOf σ) M',(as.toList.map S.ev++caps).flatMap (PV.refs S.objs 4)⟩) (((as.toList.map S.ev++caps).flatMap (PV.refs S.objs 4),(ZcA (gOf σ) M').map (·.1))::fs) K)
  (hids:M'.map (·.1)=M.map (·.1):=by rfl) (hao:(args.all (PV.only (M.map (·.1)) 4))=true:=by rfl) (hMo:(M.all λ q=>q.2.only (M.map (·.1)))=true:=by rfl)
  (hro:r.only (M.map (·.1)) 4=true:=by rfl) (hMo':(M'.all λ q=>q.2.only (M.map (·.1)))=true:=by rfl) (hnd:(M.map λ q=>gOf σ q.1).Nodup:=by exact Zb0 rfl)
  (hng:∀q∈M,q.2≠ .gone/\(2000<=q.1->q.2= .dead):=by(repeat' first|exact fmn|refine fmc ⟨⟨nofun,λ h=>by first|rfl|(simp at h;done)⟩,?_⟩)<;>fail)
  (hfl:ZkO r M M':=by refine⟨rfl,?_,?_⟩<;>(repeat' first|exact fmn|refine fmc ⟨?_,?_⟩|exact trivial|exact ZyF _|exact ZyG _ (λ _=>rfl) _|(intro d hd c hc;simp[D.flat,D.cells]at*)))
  (hx:Zfl S.objs (gOf σ) True (as.toList.map S.ev++caps) args:=by(repeat' first|exact trivial|refine⟨.inl rfl,?_⟩|refine⟨.inr ⟨_,rfl,rfl, .inr trivial⟩,?_⟩|refine⟨.inr ⟨_,rfl,(by simp(disch:=omega) only[go_sem,simprocAttr,f];done), .inr trivial⟩,?_⟩)<;>fail)
  (hobs:∀q∈M,S.objs (gOf σ q.1)=q.2.ren (gOf σ):=by(repeat' first|exact fmn|refine fmc ⟨rfl,?_⟩)<;>fail)
  (hre:((as.toList.map S.ev++caps).all λ x=>(x.refs S.objs 4).all λ o=> !(M.map λ q=>gOf σ q.1).contains o)=true:=by rfl):
  Zad P own all (⟨dst, .call ⟨.value f,as,tys⟩,ty,pos,af,none⟩::rest) S fs K:=ZC9 σ hc.out hf hids hao hMo hro hMo' hnd hng hfl hx hobs hre hk
theorem Zhk {g:FuncId}{ds args caps:List D}{r:D}(hc:CC ds caps (Zaa P g args r))(hf:S.ev f= .d (.fn g caps))(hx:(as.toList.map S.ev).mapM (toD S.objs 4)=some ds)
  (hk:Zad P own all rest (S.put dst (.d r)) (((as.toList.map S.ev).flatMap (PV.refs S.objs 4),[])::fs) K)(ha:args=ds++caps:=by rfl) (hr:(as.toList.map S.ev).flatMap (PV.refs S.objs 4)=[]\/r.flat 4=true:=by first|exact .inl rfl|exact .inr rfl):
  Zad P own all (⟨dst, .call ⟨.value f,as,tys⟩,ty,pos,af,none⟩::rest) S fs K:=Zum r ⟨g,caps,ds,hf,hx,ha▸hc.out,hr⟩ hk
end calls
theorem kw1 {F C G A:Prop}{own:Nat->Bool}{b:Bool}(o:Ow own b)(f:F)(c:C)(r:A)(h:Ow own b->F->C->Hd A->G:=by intro o f c r0;(repeat' first|refine ZbQ rfl ?_|refine ZtW o ?_|refine ZtV o ZcT ?_|(refine ZrY ?_;first|(refine rc c.1 rfl ?_ ?_;(· first|rfl|simp(disch:=omega) only[go_sem,simprocAttr,qG,roomy,f]))|refine Zej c.1 rfl ?_|refine Zei c.1 rfl ?_|(refine Zhk c.1 rfl ?_ ?_;(· first|rfl|simp(disch:=omega) only[go_sem,simprocAttr,qG,f]))|(refine rc c.2.1 rfl ?_ ?_;(· first|rfl|simp(disch:=omega) only[go_sem,simprocAttr,qG,roomy,f]))|refine Zej c.2.1 rfl ?_|refine Zei c.2.1 rfl ?_|(refine Zhk c.2.1 rfl ?_ ?_;(· first|rfl|simp(disch:=omega) only[go_sem,simprocAttr,qG,f]))|(refine rc c.2.2.1 rfl ?_ ?_;(· first|rfl|simp(disch:=omega) only[go_sem,simprocAttr,qG,roomy,f]))|refine Zej c.2.2.1 rfl ?_|refine Zei c.2.2.1 rfl ?_|(refine Zhk c.2.2.1 rfl ?_ ?_;(· first|rfl|simp(disch:=omega) only[go_sem,simprocAttr,qG,f]))|(refine rc c.2.2.2.1 rfl ?_ ?_;(· first|rfl|simp(disch:=omega) only[go_sem,simprocAttr,qG,roomy,f]))|refine Zej c.2.2.2.1 rfl ?_|refine Zei c.2.2.2.1 rfl ?_|(refine Zhk c.2.2.2.1 rfl ?_ ?_;(· first|rfl|simp(disch:=omega) only[go_sem,simprocAttr,qG,f]))|(refine rc c.2.2.2.2.1 rfl ?_ ?_;(· first|rfl|simp(disch:=omega) only[go_sem,simprocAttr,qG,roomy,f]))|refine Zej c.2.2.2.2.1 rfl ?_|refine Zei c.2.2.2.2.1 rfl ?_|(refine rc c.2.2.2.2.2.1 rfl ?_ ?_;(· first|rfl|simp(disch:=omega) only[go_sem,simprocAttr,qG,roomy,f]))|refine Zej c.2.2.2.2.2.1 rfl ?_|refine Zei c.2.2.2.2.2.1 rfl ?_|(refine rc c.2.2.2.2.2.2.1 rfl ?_ ?_;(· first|rfl|simp(disch:=omega) only[go_sem,simprocAttr,qG,roomy,f]))|refine Zej c.2.2.2.2.2.2.1 rfl ?_|refine Zei c.2.2.2.2.2.2.1 rfl ?_)|(refine ZbY rfl rfl (λ hq=>?_) (λ hq=>?_)<;>try simp only[hcL]at hq)|(refine ZbW _ rfl rfl (λ hq=>?_) (λ hq=>?_)<;>(try simp only[hcL]at hq)<;>try omega)|simp(disch:=omega) only[go_sem,simprocAttr,qG,roomy,f]|exact Zhg _|exact Zid _|(refine Zlh _ _ ?_ _;intro _;rfl)|apply And.intro|omega|decide+kernel);with_reducible exact Hd.out r0):G:=h o f c ⟨r⟩
theorem kw {F C G A0 A1 A2 A3 A4 A5 A6 A7 A8 A9:Prop}{own:Nat->Bool}{b:Bool}(o:Ow own b)(f:F)(c:C)(r:Bn A0 (Bn A1 (Bn A2 (Bn A3 (Bn A4 (Bn A5 (Bn A6 (Bn A7 (Bn A8 (Bn A9 True))))))))))(h:Ow own b->F->C->Hd A0->Hd A1->Hd A2->Hd A3->Hd A4->Hd A5->Hd A6->Hd A7->Hd A8->Hd A9->G/\True:=by intro o f c r0 r1 r2 r3 r4 r5 r6 r7 r8 r9;refine⟨?_,?_⟩;(· (have hq:=True.intro;(repeat' first|refine ZbQ rfl ?_|refine ZtW o ?_|refine ZtV o ZcT ?_|(refine ZrY ?_;first|(refine rc c.1 rfl ?_ ?_;(· first|rfl|simp(disch:=omega) only[go_sem,simprocAttr,qG,roomy,f]))|refine Zej c.1 rfl ?_|refine Zei c.1 rfl ?_|(refine Zhk c.1 rfl ?_ ?_;(· first|rfl|simp(disch:=omega) only[go_sem,simprocAttr,qG,f]))|(refine rc c.2.1 rfl ?_ ?_;(· first|rfl|simp(disch:=omega) only[go_sem,simprocAttr,qG,roomy,f]))|refine Zej c.2.1 rfl ?_|refine Zei c.2.1 rfl ?_|(refine Zhk c.2.1 rfl ?_ ?_;(· first|rfl|simp(disch:=omega) only[go_sem,simprocAttr,qG,f]))|(refine rc c.2.2.1 rfl ?_ ?_;(· first|rfl|simp(disch:=omega) only[go_sem,simprocAttr,qG,roomy,f]))|refine Zej c.2.2.1 rfl ?_|refine Zei c.2.2.1 rfl ?_|(refine Zhk c.2.2.1 rfl ?_ ?_;(· first|rfl|simp(disch:=omega) only[go_sem,simprocAttr,qG,f]))|(refine rc c.2.2.2.1 rfl ?_ ?_;(· first|rfl|simp(disch:=omega) only[go_sem,simprocAttr,qG,roomy,f]))|refine Zej c.2.2.2.1 rfl ?_|refine Zei c.2.2.2.1 rfl ?_|(refine Zhk c.2.2.2.1 rfl ?_ ?_;(· first|rfl|simp(disch:=omega) only[go_sem,simprocAttr,qG,f]))|(refine rc c.2.2.2.2.1 rfl ?_ ?_;(· first|rfl|simp(disch:=omega) only[go_sem,simprocAttr,qG,roomy,f]))|refine Zej c.2.2.2.2.1 rfl ?_|refine Zei c.2.2.2.2.1 rfl ?_|(refine rc c.2.2.2.2.2.1 rfl ?_ ?_;(· first|rfl|simp(disch:=omega) only[go_sem,simprocAttr,qG,roomy,f]))|refine Zej c.2.2.2.2.2.1 rfl ?_|refine Zei c.2.2.2.2.2.1 rfl ?_|(refine rc c.2.2.2.2.2.2.1 rfl ?_ ?_;(· first|rfl|simp(disch:=omega) only[go_sem,simprocAttr,qG,roomy,f]))|refine Zej c.2.2.2.2.2.2.1 rfl ?_|refine Zei c.2.2.2.2.2.2.1 rfl ?_)|(refine ZbY rfl rfl (λ hp=>?_) (λ hp=>?_)<;>(try simp only[hcL]at hp)<;>(replace hq:=And.intro hq hp;clear hp))|(refine ZbW _ rfl rfl (λ hp=>?_) (λ hp=>?_)<;>(try simp only[hcL]at hp)<;>(try omega)<;>(replace hq:=And.intro hq hp;clear hp))|simp(disch:=omega) only[go_sem,simprocAttr,qG,roomy,f]|exact Zhg _|exact Zid _|(refine Zlh _ _ ?_ _;intro _;rfl)|apply And.intro|omega|decide+kernel);all_goals (revert hq;(repeat refine kcu ?_);first|(with_reducible exact Hd.out r0)|(with_reducible exact Hd.out r1)|(with_reducible exact Hd.out r2)|(with_reducible exact Hd.out r3)|(with_reducible exact Hd.out r4)|(with_reducible exact Hd.out r5)|(with_reducible exact Hd.out r6)|(with_reducible exact Hd.out r7)|(with_reducible exact Hd.out r8)|(with_reducible exact Hd.out r9))));(· ((try (with_reducible have:Hd True:=r0));(try (with_reducible have:Hd True:=r1));(try (with_reducible have:Hd True:=r2));(try (with_reducible have:Hd True:=r3));(try (with_reducible have:Hd True:=r4));(try (with_reducible have:Hd True:=r5));(try (with_reducible have:Hd True:=r6));(try (with_reducible have:Hd True:=r7));(try (with_reducible have:Hd True:=r8));(try (with_reducible have:Hd True:=r9));exact True.intro))):G:=(h o f c ⟨r.l⟩ ⟨r.r.l⟩ ⟨r.r.r.l⟩ ⟨r.r.r.r.l⟩ ⟨r.r.r.r.r.l⟩ ⟨r.r.r.r.r.r.l⟩ ⟨r.r.r.r.r.r.r.l⟩ ⟨r.r.r.r.r.r.r.r.l⟩ ⟨r.r.r.r.r.r.r.r.r.l⟩ ⟨r.r.r.r.r.r.r.r.r.r.l⟩).1
theorem kN {F:Prop}{S:St}(f:F)(σ:List (Nat×Nat)){L:List (Nat×PV)}{M:List (Nat×Ob)}(h:F->(∀p∈L,S.env p.1=p.2.ren (gOf σ))/\∀q∈M,S.objs (gOf σ q.1)=q.2.ren (gOf σ):=by intro f;refine⟨?_,?_⟩<;>(repeat' first|exact fmn|refine fmc ⟨(by first|rfl|(simp(disch:=omega) only[go_sem,simprocAttr,inL,f];first|done|omega|(congr 1;done))),?_⟩);done)
  (h3:(L.all λ p=>p.2.only (M.map (·.1)) 4)=true:=by rfl) (h4:(M.all λ q=>q.2.only (M.map (·.1)))=true:=by rfl) (h5:(M.map λ q=>gOf σ q.1).Nodup:=by exact Zb0 rfl)
  (h6:(M.all λ q=>((decide (q.1<1000)||decide (2000<=q.1))&&(decide (gOf σ q.1<1000)||decide (2000<=gOf σ q.1)))||decide (gOf σ q.1=q.1))=true:=by rfl)
  (h7:Zb5 (M.map (·.1)) S.objs:=by(repeat' first|exact ZgC _ rfl|exact ZgB|refine ZgD rfl ?_|refine Zik ?_)):ZgQ S L M:=Zq8 σ L M (h f).1 (h f).2 h3 h4 h5 h6 h7
theorem kR {F:Prop}{S:St}{P:Program}{B X:Nat->Prop}{w0:W0}{n:Nat}{c:Code}{Q:Exit->St->Prop}(f:F)(σ:List (Nat×Nat))(L:List (Nat×PV))(M:List (Nat×Ob))(hk:PW P B X w0 n c Q ⟨Zbz L,Zap M⟩)(h:F->(∀p∈L,S.env p.1=p.2.ren (gOf σ))/\∀q∈M,S.objs (gOf σ q.1)=q.2.ren (gOf σ):=by intro f;refine⟨?_,?_⟩<;>(repeat' first|exact fmn|refine fmc ⟨(by first|rfl|(simp(disch:=omega) only[go_sem,simprocAttr,inL,f];first|done|omega|(congr 1;done))),?_⟩);done)
  (h3:(L.all λ p=>p.2.only (M.map (·.1)) 4)=true:=by rfl) (h4:(M.all λ q=>q.2.only (M.map (·.1)))=true:=by rfl) (h5:(M.map λ q=>gOf σ q.1).Nodup:=by exact Zb0 rfl)
  (h6:(M.all λ q=>((decide (q.1<1000)||decide (2000<=q.1))&&(decide (gOf σ q.1<1000)||decide (2000<=gOf σ q.1)))||decide (gOf σ q.1=q.1))=true:=by rfl)
  (h7:Zb5 (M.map (·.1)) S.objs:=by(repeat' first|exact ZgC _ rfl|exact ZgB|refine ZgD rfl ?_|refine Zik ?_)):PW P B X w0 n c Q S:=Zao _ (Znu σ L M (h f).1 (h f).2 h3 h4 h5 h6 h7) hk
theorem kF {F:Prop}{S:St}(f:F)(σf σ:List (Nat×Nat)){L:List (Nat×PV)}{Fs:List Fam}{M:List (Nat×Ob)}(hF:∀f∈Fs,∃r,S.objs (gOf σ f.o)= .cells (Za4 f.n r)/\∀i,i<f.n->r i= .ref (gOf σf (fid f.j i)) f.sz 0 (f.rows i).length (f.rows i).length/\S.objs (gOf σf (fid f.j i))= .row f.sz (f.rows i))(h:F->(∀p∈L,S.env p.1=p.2.ren (gOf σ))/\∀q∈M,S.objs (gOf σ q.1)=q.2.ren (gOf σ):=by intro f;refine⟨?_,?_⟩<;>(repeat' first|exact fmn|refine fmc ⟨(by first|rfl|(simp(disch:=omega) only[go_sem,simprocAttr,inL,f];first|done|omega|(congr 1;done))),?_⟩);done)
  (hn:∀f∈Fs,1<=f.j/\f.o<1125899906842624/\f.n<=1125899906842624:=by(repeat' first|exact uW _|refine uK.2 ⟨⟨yA rfl,yA rfl,by dsimp only;omega⟩,?_⟩);done)
  (c1:(L.all λ p=>p.2.only (Fs.map (·.o)++M.map (·.1)) 4)=true:=by rfl) (c2:(M.all λ q=>q.2.only (Fs.map (·.o)++M.map (·.1)))=true:=by rfl)
  (c3:((Fs.map (·.o)++M.map (·.1)).map (gOf σ)++σf.map (·.2)).Nodup:=by exact Zb0 rfl) (c4:(Fs.map (·.j)).Nodup:=by exact Zb0 rfl)
  (c5:((Fs.map (·.o)++M.map (·.1)).all λ i=>(((decide (i<1000)||decide (2000<=i))&&(decide (gOf σ i<1000)||decide (2000<=gOf σ i)))||decide (gOf σ i=i))&&decide (i<1125899906842624)&&decide (gOf σ i<1125899906842624))=true:=by rfl)
  (c6:(σf.all λ p=>(decide (p.2<1000)||decide (2000<=p.2))&&decide (p.2<1125899906842624))=true:=by rfl)
  (c7:Zb5 (Fs.map (·.o)++M.map (·.1)) S.objs:=by(repeat' first|refine Zoz rfl rfl ?_|refine ZoB ?_|refine ZoA rfl ?_|refine ZgD rfl ?_|refine Zik ?_|exact ZgC _ rfl|exact ZgB);done):ZgP S L Fs M:=Znt σf σ L Fs M (h f).1 (h f).2 hF hn c1 c2 c3 c4 c5 c6 c7
theorem kG {F:Prop}{S:St}(f:F)(σf σ:List (Nat×Nat))(L:List (Nat×PV))(Fs:List Fam)(M:List (Nat×Ob))(hF:∀f∈Fs,∃r,S.objs (gOf σ f.o)= .cells (Za4 f.n r)/\∀i,i<f.n->r i= .ref (gOf σf (fid f.j i)) f.sz 0 (f.rows i).length (f.rows i).length/\S.objs (gOf σf (fid f.j i))= .row f.sz (f.rows i))(h:F->(∀p∈L,S.env p.1=p.2.ren (gOf σ))/\∀q∈M,S.objs (gOf σ q.1)=q.2.ren (gOf σ):=by intro f;refine⟨?_,?_⟩<;>(repeat' first|exact fmn|refine fmc ⟨(by first|rfl|(simp(disch:=omega) only[go_sem,simprocAttr,inL,f];first|done|omega|(congr 1;done))),?_⟩);done)
  (hn:∀f∈Fs,1<=f.j/\f.o<1125899906842624/\f.n<=1125899906842624:=by(repeat' first|exact uW _|refine uK.2 ⟨⟨yA rfl,yA rfl,by dsimp only;omega⟩,?_⟩);done)
  (c1:(L.all λ p=>p.2.only (Fs.map (·.o)++M.map (·.1)) 4)=true:=by rfl) (c2:(M.all λ q=>q.2.only (Fs.map (·.o)++M.map (·.1)))=true:=by rfl)
  (c3:((Fs.map (·.o)++M.map (·.1)).map (gOf σ)++σf.map (·.2)).Nodup:=by exact Zb0 rfl) (c4:(Fs.map (·.j)).Nodup:=by exact Zb0 rfl)
  (c5:((Fs.map (·.o)++M.map (·.1)).all λ i=>(((decide (i<1000)||decide (2000<=i))&&(decide (gOf σ i<1000)||decide (2000<=gOf σ i)))||decide (gOf σ i=i))&&decide (i<1125899906842624)&&decide (gOf σ i<1125899906842624))=true:=by rfl)
  (c6:(σf.all λ p=>(decide (p.2<1000)||decide (2000<=p.2))&&decide (p.2<1125899906842624))=true:=by rfl)
  (c7:Zb5 (Fs.map (·.o)++M.map (·.1)) S.objs:=by(repeat' first|refine Zoz rfl rfl ?_|refine ZoB ?_|refine ZoA rfl ?_|refine ZgD rfl ?_|refine Zik ?_|exact ZgC _ rfl|exact ZgB);done):ZgP S L Fs M:=Znt σf σ L Fs M (h f).1 (h f).2 hF hn c1 c2 c3 c4 c5 c6 c7
theorem kT0 {F G:Prop}(f:F)(h:F->G:=by intro f;(repeat' first|exact fmn|refine fmc ⟨?_,?_⟩);(all_goals refine⟨_,(by first|rfl|(simp(disch:=omega) only[go_sem,simprocAttr,f];done)|(simp(disch:=omega) only[go_sem,simprocAttr,f];rfl)),λ i hi=>?_⟩);(all_goals dsimp only at hi|-);(all_goals try (exfalso;omega));(all_goals try (simp(disch:=omega) only[go_sem,simprocAttr,f,Zd8,Zeb];done))):G:=h f
theorem kT1 {F G:Prop}(f:F)(p0:Nat)(h:F->Ix p0->G:=by intro f p0;(repeat' first|exact fmn|refine fmc ⟨?_,?_⟩);(all_goals refine⟨_,(by first|rfl|(simp(disch:=omega) only[go_sem,simprocAttr,f];done)|(simp(disch:=omega) only[go_sem,simprocAttr,f];rfl)),λ i hi=>?_⟩);(all_goals dsimp only at hi|-);(all_goals rcases kem p0 i with rfl|hi0);(all_goals try (exfalso;omega));(all_goals try (simp(disch:=omega) only[go_sem,simprocAttr,f,Zd8,Zeb];done));(all_goals try (simp(disch:=omega) only[go_sem,simprocAttr,f,hi0,Zd8,Zeb];done))):G:=h f (kix p0)
theorem kT2 {F G:Prop}(f:F)(p0:Nat)(p1:Nat)(h:F->Ix p0->Ix p1->G:=by intro f p0 p1;(repeat' first|exact fmn|refine fmc ⟨?_,?_⟩);(all_goals refine⟨_,(by first|rfl|(simp(disch:=omega) only[go_sem,simprocAttr,f];done)|(simp(disch:=omega) only[go_sem,simprocAttr,f];rfl)),λ i hi=>?_⟩);(all_goals dsimp only at hi|-);(all_goals rcases kem p0 i with rfl|hi0);(all_goals rcases kem p1 i with rfl|hi1);(all_goals try (exfalso;omega));(all_goals try (simp(disch:=omega) only[go_sem,simprocAttr,f,Zd8,Zeb];done));(all_goals try (simp(disch:=omega) only[go_sem,simprocAttr,f,hi0,Zd8,Zeb];done));(all_goals try (simp(disch:=omega) only[go_sem,simprocAttr,f,hi1,Zd8,Zeb];done));(all_goals try (simp(disch:=omega) only[go_sem,simprocAttr,f,hi0,hi1,Zd8,Zeb];done))):G:=h f (kix p0) (kix p1)
theorem kE {P:Program}{f:FuncId}{fn:Func}{c:Code}{args:List D}{r:D}(hf:P.funcs[f]? =some fn)
  (h:(∃w X vs,ZhH w X args vs)->∀B X w0,PW P B X w0 fn.ntmps c (ZpL P fn.results.toList r) ⟨Zes 0 args,λ _=> .dead⟩)(hb:fn.body=some c:=by rfl) (hn:(fn.name== "runtime.NumGoroutine")=false:=by decide+kernel) (hl:args.length<=fn.ntmps:=by exact yA rfl):Zaa P f args r:=Zxc hf hb hn hl h
theorem kM {P:Program}{f:FuncId}{fn:Func}{c:Code}{args:List PV}{M M':List (Nat×Ob)}{r:PV}(hf:P.funcs[f]? =some fn)
  (h:∀B X w0,PW P B X w0 fn.ntmps c (ZpM P fn.results.toList r M') ⟨ZgT 0 args,Zap M⟩)(hb:fn.body=some c:=by rfl) (hn:(fn.name== "runtime.NumGoroutine")=false:=by decide+kernel) (hl:args.length<=fn.ntmps:=by exact yA rfl)
  (hids:M'.map (·.1)=M.map (·.1):=by rfl) (hnd:(M.map (·.1)).Nodup:=by exact Zb0 rfl) (hro:r.only (M.map (·.1)) 4=true:=by rfl) (hMo':(M'.all λ q=>q.2.only (M.map (·.1)))=true:=by rfl)
  (hpass:(M.all λ q=>(match q.2 with| .dead=>true|_=>false)||(decide (1000<=q.1)&&decide (q.1<2000)))=true:=by rfl):Zag P f args M r M':=ZqD hf hb hn hl hids hnd hro hMo' hpass h
end Go.PS
