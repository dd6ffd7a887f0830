/- The net of a problem: its potentials, the least ranks; certificates are found. -/
import Derived.Test.YtjjbhjnpeenbkaaGreatDoorSxQ
import Derived.Test.YtjjbhjnpeenbkaaGreatDoorSxK
set_option linter.unusedSimpArgs false
set_option linter.unusedVariables false
set_option maxHeartbeats 16000000
namespace Go.Proofs.YtjjbhjnpeenbkaaGreatDoor.Sx
open Go Go.PS Go.Proofs
section partZ
theorem ZjP {α:Type}{g:Nat->List α}{x:α}:∀{n:Nat},x∈Za5 g n↔∃k,k<n/\x∈g k:=by
 intro n
 induction n with
 |zero=>simp[Za5]
 |succ n ih=>
  simp only[Za5,yO,ih];constructor
  ·rintro(⟨k,hk,h⟩|h)
   ·exact⟨k,by omega,h⟩
   ·exact⟨n,by omega,h⟩
  ·rintro⟨k,hk,h⟩;rcases uC k n with h1|h1
   ·exact .inl ⟨k,h1,h⟩
   ·have:k=n:=by omega
    subst this;exact .inr h
theorem mem_steps {l:List Bd}{f:List Int}{v:Nat}{s:Stp}:s∈Zau l f v↔∃(k:Nat) (b:Bd),l[k]? =some b/\((b.1=v/\s=(b.2.1,b.2.2.1,(k:Int),false))\/(0<at0 f k/\b.2.1=v/\s=(b.1,-b.2.2.1,(k:Int),true))):=by
 rw[Zau,Ze8,ZjP];constructor
 ·rintro⟨k,hk,h⟩;obtain⟨b,hb⟩:=Zac hk;refine⟨k,b,hb,?_⟩;simp only[Zib,hb,yO]at h;rcases h with h|h
  ·split at h
   ·rename_i h1;exact .inl ⟨h1,uT.1 h⟩
   ·simp at h
  ·split at h
   ·rename_i h1;exact .inr ⟨h1.1,h1.2,uT.1 h⟩
   ·simp at h
 ·rintro⟨k,b,hb,h⟩;refine⟨k,(uB.1 hb).1,?_⟩;simp only[Zib,hb,yO];rcases h with⟨h1,rfl⟩|⟨h1,h2,rfl⟩
  ·left;rw[if_pos h1];simp
  ·right;rw[if_pos ⟨h1,h2⟩];simp
def BdsOk (n:Nat)(l:List Bd):Prop:=∀(k:Nat) b,l[k]? =some b->0<=b.1/\b.1<(n:Int)/\0<=b.2.1/\b.2.1<(n:Int)/\b.1≠b.2.1/\-16777216<=b.2.2.1/\b.2.2.1<=16777216/\0<=b.2.2.2/\b.2.2.2<=8000
theorem bdsOk_of {n:Nat}{l:List Bd}(h:nOk ((n:Int),l)=true):BdsOk n l/\n<=2048/\l.length<=4096:=by
 obtain⟨h1,h2,h3,h4⟩:=Zft h;dsimp only at h1 h2 h3 h4;exact⟨h4,by omega,h3⟩
theorem steps_good {n:Nat}{l:List Bd}{f:List Int}(hb:BdsOk n l):Zc0 n (Zau l f):=by
 intro v s hs;obtain⟨k,b,hk,h⟩:=mem_steps.1 hs;have:=hb k b hk;rcases h with⟨h1,rfl⟩|⟨h1,h2,rfl⟩<;>dsimp only<;>omega
def PotB (l:List Bd)(f:List Int)(p:Nat->Int):Prop:=∀(k:Nat) b,l[k]? =some b->p b.1.toNat+b.2.2.1<=p b.2.1.toNat/\(0<at0 f k->p b.2.1.toNat<=p b.1.toNat+b.2.2.1)
theorem Zfv {n:Nat}{l:List Bd}{f:List Int}{p:Nat->Int}(hb:BdsOk n l):Pot (Zau l f) p↔PotB l f p:=by
 constructor
 ·intro h k b hk;have hbk:=hb k b hk;refine⟨h b.1.toNat (b.2.1,b.2.2.1,(k:Int),false) (mem_steps.2 ⟨k,b,hk, .inl ⟨by omega,rfl⟩⟩),λ hf=>?_⟩;have:=h b.2.1.toNat (b.1,-b.2.2.1,(k:Int),true) (mem_steps.2 ⟨k,b,hk, .inr ⟨hf,by omega,rfl⟩⟩);dsimp only at this;omega
 ·intro h v s hs;obtain⟨k,b,hk,h1⟩:=mem_steps.1 hs;have hbk:=hb k b hk;obtain⟨e1,e2⟩:=h k b hk;rcases h1 with⟨h1,rfl⟩|⟨h1,h2,rfl⟩
  ·dsimp only;rw[show v=b.1.toNat by omega];exact e1
  ·have:=e2 h1;dsimp only;rw[show v=b.2.1.toNat by omega];omega
abbrev Zei (n:Nat):Nat->Prop:=λ v=>(v:Int)∈Zcd n
theorem mem_allI {n v:Nat}:(v:Int)∈Zcd n↔v<n:=by
 rw[Zcd,uP];constructor
 ·rintro⟨u,hu,h⟩;have:=yA.1 hu;omega
 ·intro h;exact⟨v,yA.2 h,rfl⟩
theorem ZAz {n:Nat}{l:List Bd}{f:List Int}(hb:BdsOk n l){W:List Way}(h:Zcg n (Zau l f) (Zcd n)=some W):Pot (Zau l f) (lgW W):=by
 have hg:=steps_good (f:=f) hb;obtain⟨_,h1,h2⟩:=ZrN hg (ZkG n).1 h;intro v s hs;have hv:=hg v s hs;have h3:=h2 v hv.1 (mem_allI.2 hv.1);have:=h1 v hv.1 (by rw[Rch];omega) s hs;rw[lgW,lgW,show((s.1.toNat:Nat):Int)=s.1 by omega];exact this
theorem Znz {n:Nat}{l:List Bd}{f:List Int}{p:Nat->Int}(hb:BdsOk n l)(hn:n<=2048)(hp:Pot (Zau l f) p):
  ∃W,Zcg n (Zau l f) (Zcd n)=some W/\W.length=n/\∀v,v<n->Opt (Zau l f) (Zei n) v (lgW W v):=by
 obtain⟨a1,a2⟩:=ZkG n;obtain⟨W,h1,h2,h3,h4⟩:=Ztu hp (steps_good hb) hn a1 (by omega);refine⟨W,h1,h2.len,λ v hv=>(h4 v hv ?_).1⟩;have:=(h2.starts v (mem_allI.2 hv)).2;rw[Rch];omega
theorem ZzS {n:Nat}{l:List Bd}{f:List Int}(hb:BdsOk n l){v:Nat}{d:Int}(h:Opt (Zau l f) (Zei n) v d):0<=d/\d<=16777216*(n:Int):=by
 have hS:∀v:Nat,Zei n v->v<n:=λ v hv=>mem_allI.1 hv
 obtain⟨k,hk,hw⟩:=opt_short (steps_good hb) hS h;have h1:=Zks (steps_good hb) hw;have h2:=h.2 0 0 (.start v (mem_allI.2 (Zja (steps_good hb) hS hw)));omega
theorem ZDk {n:Nat}{l:List Bd}{f:List Int}{k:Nat}{s:List Int×Bool}{b:Bd}(hb:BdsOk n l)(hk:l[k]? =some b)(hs:s.1.length=n):
  (∀v:Nat,at0 s.1 v<=at0 (Zdl l f k s).1 v)/\at0 s.1 b.1+b.2.2.1<=at0 (Zdl l f k s).1 b.2.1/\(0<at0 f k->at0 s.1 b.2.1-b.2.2.1<=at0 (Zdl l f k s).1 b.1)/\
   (∀v:Nat,at0 (Zdl l f k s).1 v=at0 s.1 v\/((v:Int)=b.2.1/\at0 (Zdl l f k s).1 v=at0 s.1 b.1+b.2.2.1)\/(0<at0 f k/\(v:Int)=b.1/\at0 (Zdl l f k s).1 v=at0 s.1 b.2.1-b.2.2.1))/\
   ((Zdl l f k s).2=false->s.2=false/\(Zdl l f k s).1=s.1):=by
 obtain⟨h1,h2,h3,h4,h5,_⟩:=hb k b hk;have ht:ZfB f k=decide (0<at0 f k):=by
  rw[ZfB,at0,uK];cases f[k]? with
  |none=>simp
  |some x=>rfl
 obtain⟨i,hi⟩:∃i:Nat,b.1=i:=⟨b.1.toNat,by omega⟩;obtain⟨j,hj⟩:∃j:Nat,b.2.1=j:=⟨b.2.1.toNat,by omega⟩;have hst:Zdl l f k s=upB b (ZfB f k) (upA b s):=by simp only[Zdl,hk]
 rw[hst];by_cases c1:at0 s.1 j<at0 s.1 i+b.2.2.1
 ·rw[Zul hi hj (by omega) (by omega) c1,hi,hj];have hs2:∀v:Nat,at0 (s.1.set j (at0 s.1 i+b.2.2.1)) v=if v=j then at0 s.1 i+b.2.2.1 else at0 s.1 v:=λ v=>by
   rw[Zel _ _ _ _ (by omega)];by_cases h:v=j
   ·rw[if_pos ⟨by omega,by omega⟩,if_pos h]
   ·rw[if_neg (by omega),if_neg h]
  refine⟨λ v=>?_,?_,λ _=>?_,λ v=>?_,λ h=>by cases h⟩
  ·dsimp only;rw[hs2];split
   ·rename_i h;subst h;omega
   ·exact qL _
  ·dsimp only;rw[hs2,if_pos rfl];exact qL _
  ·dsimp only;rw[hs2,if_neg (by omega)];omega
  ·dsimp only;rw[hs2];split
   ·rename_i h;right;left;exact⟨by omega,rfl⟩
   ·left;rfl
 ·by_cases c2:0<at0 f k/\at0 s.1 i<at0 s.1 j-b.2.2.1
  ·rw[Zum hi hj c1 (by rw[ht];simp[c2.1]) c2.2,hi,hj];have hs2:∀v:Nat,at0 (s.1.set i (at0 s.1 j-b.2.2.1)) v=if v=i then at0 s.1 j-b.2.2.1 else at0 s.1 v:=λ v=>by
    rw[Zel _ _ _ _ (by omega)];by_cases h:v=i
    ·rw[if_pos ⟨by omega,by omega⟩,if_pos h]
    ·rw[if_neg (by omega),if_neg h]
   refine⟨λ v=>?_,?_,λ _=>?_,λ v=>?_,λ h=>by cases h⟩
   ·dsimp only;rw[hs2];split
    ·rename_i h;subst h;omega
    ·exact qL _
   ·dsimp only;rw[hs2,if_neg (by omega)];omega
   ·dsimp only;rw[hs2,if_pos rfl];exact qL _
   ·dsimp only;rw[hs2];split
    ·rename_i h;right;right;exact⟨c2.1,by omega,rfl⟩
    ·left;rfl
  ·rw[ZoR hi hj c1 (by rw[ht,yZ];omega),hi,hj];exact⟨λ v=>qL _,by omega,λ h=>by omega,λ v=> .inl rfl,λ h=>⟨h,rfl⟩⟩
theorem Zkg {n:Nat}{l:List Bd}{f:List Int}{r:List Int}(hb:BdsOk n l)(hr:r.length=n):
  ∀i,i<=l.length->(∀v:Nat,at0 r v<=at0 (Zbc l f r i).1 v)/\(∀(k:Nat) b,k<i->l[k]? =some b->at0 r b.1+b.2.2.1<=at0 (Zbc l f r i).1 b.2.1/\(0<at0 f k->at0 r b.2.1-b.2.2.1<=at0 (Zbc l f r i).1 b.1))/\
   ((∀v:Nat,v<n->∃j,Wk (Zau l f) (Zei n) j v (at0 r v))->∀v:Nat,v<n->∃j,Wk (Zau l f) (Zei n) j v (at0 (Zbc l f r i).1 v))/\
   ((Zbc l f r i).2=false->(Zbc l f r i).1=r):=by
 intro i
 induction i with
 |zero=>intro _;exact⟨λ v=>qL _,λ k b hk=>by omega,λ h=>h,λ _=>rfl⟩
 |succ i ih=>
  intro hi;obtain⟨i1,i2,i3,i4⟩:=ih (by omega);obtain⟨b,hbk⟩:=Zac (show i<l.length by omega);have hlen:(Zbc l f r i).1.length=n:=by rw[ZlH,hr]
  obtain⟨s1,s2,s3,s4,s5⟩:=ZDk (f:=f) (s:=Zbc l f r i) hb hbk hlen;have hbb:=hb i b hbk;have cast:∀x:Int,0<=x->at0 r x<=at0 (Zbc l f r i).1 x:=λ x hx=>by
   have:=i1 x.toNat
   rwa [show((x.toNat:Nat):Int)=x by omega]at this
  have cast2:∀x:Int,0<=x->at0 (Zbc l f r i).1 x<=at0 (Zdl l f i (Zbc l f r i)).1 x:=λ x hx=>by
   have:=s1 x.toNat
   rwa [show((x.toNat:Nat):Int)=x by omega]at this
  rw[Zbc];refine⟨λ v=>zC (i1 v) (s1 v),λ k b' hk hk'=>?_,λ h v hv=>?_,λ h=>?_⟩
  ·have hb':=hb k b' hk';rcases uC k i with h1|h1
   ·obtain⟨e1,e2⟩:=i2 k b' h1 hk';have c1:=cast2 b'.2.1 (by omega);have c2:=cast2 b'.1 (by omega);exact⟨by omega,λ h=>by have:=e2 h;omega⟩
   ·have:k=i:=by omega
    subst this;rw[hbk]at hk';cases hk';have c1:=cast b.2.1 (by omega);have c2:=cast b.1 (by omega);exact⟨by omega,λ h=>by have:=s3 h;omega⟩
  ·have hold:=i3 h;rcases s4 v with h1|⟨h1,h2⟩|⟨h0,h1,h2⟩
   ·rw[h1];exact hold v hv
   ·obtain⟨j,hj⟩:=hold b.1.toNat (by omega);rw[show((b.1.toNat:Nat):Int)=b.1 by omega]at hj;have:=Wk.step j b.1.toNat _ (b.2.1,b.2.2.1,(i:Int),false) hj (mem_steps.2 ⟨i,b,hbk, .inl ⟨by omega,rfl⟩⟩);dsimp only at this;rw[show b.2.1.toNat=v by omega]at this;rw[h2];exact⟨_,this⟩
   ·obtain⟨j,hj⟩:=hold b.2.1.toNat (by omega);rw[show((b.2.1.toNat:Nat):Int)=b.2.1 by omega]at hj;have:=Wk.step j b.2.1.toNat _ (b.1,-b.2.2.1,(i:Int),true) hj (mem_steps.2 ⟨i,b,hbk, .inr ⟨h0,by omega,rfl⟩⟩);dsimp only at this;rw[show b.1.toNat=v by omega]at this;rw[h2,Cs];exact⟨_,this⟩
  ·obtain⟨e1,e2⟩:=s5 h;rw[e2];exact i4 e1
theorem Zte {n:Nat}{l:List Bd}{f:List Int}{r:List Int}(hb:BdsOk n l)(hr:r.length=n)(h:(Zbc l f r l.length).2=false):PotB l f (λ v=>at0 r v):=by
 obtain⟨_,h2,_,h4⟩:=Zkg (f:=f) hb hr l.length (uI _);intro k b hk;have hbk:=hb k b hk;obtain⟨e1,e2⟩:=h2 k b (uB.1 hk).1 hk;rw[h4 h]at e1 e2;dsimp only;rw[show((b.1.toNat:Nat):Int)=b.1 by omega,show((b.2.1.toNat:Nat):Int)=b.2.1 by omega];exact⟨e1,λ h=>by have:=e2 h;omega⟩
theorem ZBA {n:Nat}{l:List Bd}{f:List Int}{r:List Int}(hb:BdsOk n l)(_hr:r.length=n)(h:PotB l f (λ v=>at0 r v)):∀i,i<=l.length->Zbc l f r i=(r,false):=by
 intro i
 induction i with
 |zero=>intro _;rfl
 |succ i ih=>
  intro hi;obtain⟨b,hbk⟩:=Zac (show i<l.length by omega);have hbb:=hb i b hbk;obtain⟨e1,e2⟩:=h i b hbk;dsimp only at e1 e2;rw[show((b.1.toNat:Nat):Int)=b.1 by omega,show((b.2.1.toNat:Nat):Int)=b.2.1 by omega]at e1 e2;rw[Zbc,ih (by omega),Zdl,hbk];dsimp only;have ht:ZfB f i=decide (0<at0 f i):=by
   rw[ZfB,at0,uK];cases f[i]? with
   |none=>simp
   |some x=>rfl
  have ea:upA b (r,false)=(r,false):=by rw[upA,if_neg (by dsimp only;omega)]
  rw[ea,upB,ht,if_neg];simp only[uM,uF];rintro⟨h1,h2⟩;have:=e2 h1;omega
theorem ZtT {l:List Bd}{f:List Int}{n:Nat}:∀{m k:Nat},ZcU l f n m=some k->(Zbc l f (Zba l f n k) l.length).2=false:=by
 intro m
 induction m with
 |zero=>intro k h;cases h
 |succ m ih=>
  intro k h;rw[ZcU]at h;cases hm:ZcU l f n m with
  |some i=>rw[hm]at h;cases h;exact ih hm
  |none=>
   rw[hm]at h;dsimp only at h;split at h
   ·cases h
   ·rename_i hf;cases h;simpa using hf
theorem ZDq {l:List Bd}{f:List Int}{n:Nat}:∀{m:Nat},ZcU l f n m=none->∀k,k<m->(Zbc l f (Zba l f n k) l.length).2=true:=by
 intro m
 induction m with
 |zero=>intro _ k hk;omega
 |succ m ih=>
  intro h k hk;rw[ZcU]at h;cases hm:ZcU l f n m with
  |some i=>rw[hm]at h;cases h
  |none=>
   rw[hm]at h;dsimp only at h;rcases uC k m with h1|h1
   ·exact ih hm k h1
   ·have:k=m:=by omega
    subst this;split at h
    ·rename_i hf;exact hf
    ·cases h
theorem ZyK {n:Nat}{l:List Bd}{f r:List Int}(hb:BdsOk n l)(h:Zc7 ((n:Int),l) f=(r,true)):PotB l f (λ v=>at0 r v):=by
 rw[Zc7]at h;simp only[uK]at h;cases hs:ZcU l f n (n+2)with
 |none=>rw[hs]at h;simp at h
 |some k=>
  rw[hs]at h;have hf:=ZtT hs;have:=Zte hb (Zf0 l f n k) hf;have h4:=(Zkg (f:=f) hb (Zf0 l f n k) l.length (uI _)).2.2.2 hf;simp only[Bl,Di]at h;rw[<-h,Zba,h4];exact this
theorem Zrv {n:Nat}{l:List Bd}{f:List Int}{p:Nat->Int}(hb:BdsOk n l)(hp:Pot (Zau l f) p):
  ∃r,Zc7 ((n:Int),l) f=(r,true)/\r.length=n/\∀v,v<n->Opt (Zau l f) (Zei n) v (at0 r v):=by
 have hg:=steps_good (f:=f) hb;have hS:∀v:Nat,Zei n v->v<n:=λ v hv=>mem_allI.1 hv
 have hsound:∀k v,v<n->∃j,Wk (Zau l f) (Zei n) j v (at0 (Zba l f n k) v):=by
  intro k
  induction k with
  |zero=>
   intro v hv;have:at0 (Zba l f n 0) v=0:=by simp only[at0,Zba,qT];split<;>rfl
   rw[this];exact⟨0, .start v (mem_allI.2 hv)⟩
  |succ k ih=>exact(Zkg (f:=f) hb (Zf0 l f n k) l.length (uI _)).2.2.1 ih
 have hprog:∀k j v d,j<=k->Wk (Zau l f) (Zei n) j v d->d<=at0 (Zba l f n k) v:=by
  intro k
  induction k with
  |zero=>
   intro j v d hj hw;have:j=0:=by omega
   subst this;cases hw with
   |start _ h=>simp only[at0,Zba,qT];split<;>exact qL _
  |succ k ih=>
   intro j v d hj hw;obtain⟨m1,m2,_,_⟩:=Zkg (f:=f) hb (Zf0 l f n k) l.length (uI _);rcases uC k j with h1|h1
   ·have:j=k+1:=by omega
    subst this;cases hw with
    |step _ u d0 s hu hs=>
     have h0:=ih k u d0 (uI _) hu;obtain⟨i,b,hi,h2⟩:=mem_steps.1 hs;have hbb:=hb i b hi;obtain⟨e1,e2⟩:=m2 i b (uB.1 hi).1 hi;rw[Zba];rcases h2 with⟨h2,rfl⟩|⟨h2,h3,rfl⟩
     ·dsimp only;rw[<-h2]at h0;rw[show((b.2.1.toNat:Nat):Int)=b.2.1 by omega];omega
     ·dsimp only;rw[<-h3]at h0;have:=e2 h2;rw[show((b.1.toNat:Nat):Int)=b.1 by omega];omega
   ·have:=ih j v d h1 hw;exact zC this (m1 v)
 have hlo:∃lo:Int,∀v,Zei n v->lo<=p v:=by
  have:∀m:Nat,∃lo:Int,∀v:Nat,v<m->lo<=p v:=by
   intro m
   induction m with
   |zero=>exact⟨0,λ v hv=>by omega⟩
   |succ m ih=>
    obtain⟨lo,h⟩:=ih;refine⟨min lo (p m),λ v hv=>?_⟩;rcases uC v m with h1|h1
    ·have:=h v h1;omega
    ·have:v=m:=by omega
     subst this;omega
  obtain⟨lo,h⟩:=this n;exact⟨lo,λ v hv=>h v (hS v hv)⟩
 obtain⟨lo,hlo⟩:=hlo
 have hstill:ZcU l f n (n+2)≠none:=by
  intro hnone;have hT:=ZDq hnone n (by omega);have hopt:∀v,v<n->Opt (Zau l f) (Zei n) v (at0 (Zba l f n n) v):=λ v hv=>by
   obtain⟨j,hw⟩:=hsound n v hv;obtain⟨d,hd⟩:=ZnR hp hlo hw;obtain⟨i,hi,hwi⟩:=opt_short hg hS hd;have h1:=hprog n i v d (by omega) hwi;have h2:=hd.2 _ _ hw;rw[show at0 (Zba l f n n) v=d by omega];exact hd
  have hpot:PotB l f (λ v=>at0 (Zba l f n n) v):=(Zfv hb).1 λ v s hs=>by
   have hv:=hg v s hs;obtain⟨⟨j,hw⟩,_⟩:=hopt v hv.1;exact(hopt s.1.toNat (by omega)).2 _ _ (.step j v _ s hw hs)
  rw[ZBA hb (Zf0 l f n n) hpot l.length (uI _)]at hT;cases hT
 cases hs:ZcU l f n (n+2)with
 |none=>exact absurd hs hstill
 |some k=>
  refine⟨Zba l f n (k+1),by rw[Zc7];simp only[uK];rw[hs],Zf0 _ _ _ _,λ v hv=>?_⟩;have hf:=ZtT hs;have hpb:=(Zfv hb).2 (Zte hb (Zf0 l f n k) hf);have h4:=(Zkg (f:=f) hb (Zf0 l f n k) l.length (uI _)).2.2.2 hf;rw[Zba,h4];refine⟨hsound k v hv,λ j d hw=>?_⟩;have:∀j v d,Wk (Zau l f) (Zei n) j v d->d<=at0 (Zba l f n k) v:=by
   intro j v d hw
   induction hw with
   |start v h=>exact hprog k 0 v 0 (by omega) (.start v h)
   |step j v d s hw hs ih=>have:=hpb v s hs;dsimp only at this;omega
  exact this j v d hw
end partZ
section partZa
theorem Ze9 {g h:Nat->Int}:∀{n:Nat},(∀v,v<n->g v=h v)->Zar g n=Zar h n
 |0,_=>rfl
 |n+1,e=>by rw[Zcp,Zcp,e n (by omega),Ze9 λ v hv=>e v (by omega)]
theorem Zhw (g h:Nat->Int):∀n,Zar (λ v=>g v+h v) n=Zar g n+Zar h n
 |0=>rfl
 |n+1=>by rw[Zcp,Zcp,Zcp,Zhw g h n];omega
theorem Zko (g:Nat->Int):∀n,Zar (λ v=>-(g v)) n=-(Zar g n)
 |0=>rfl
 |n+1=>by rw[Zcp,Zcp,Zko g n];omega
theorem Zfa :∀n,Zar (λ _=>0) n=0
 |0=>rfl
 |n+1=>by rw[Zcp,Zfa n];rfl
theorem Zic (i:Nat)(x:Int):∀n,Zar (λ v=>if i=v then x else 0) n=if i<n then x else 0
 |0=>by simp[Zar]
 |n+1=>by
  rw[Zcp,Zic i x n];by_cases h:i=n
  ·rw[if_neg (by omega),if_pos h,if_pos (by omega)];omega
  ·rw[if_neg h];by_cases h2:i<n
   ·rw[if_pos h2,if_pos (by omega)];omega
   ·rw[if_neg h2,if_neg (by omega)];omega
theorem Zid {g h:Nat->Int}:∀{n:Nat},(∀v,v<n->g v<=h v)->Zar g n<=Zar h n
 |0,_=>qL _
 |n+1,e=>by
  rw[Zcp,Zcp];have:=Zid (n:=n) λ v hv=>e v (by omega)
  have:=e n (by omega);omega
theorem Zkn {g h:Nat->Int}{i:Nat}:∀{n:Nat},(∀v,v<n->g v<=h v)->i<n->g i<h i->Zar g n<Zar h n
 |0,_,hi,_=>by omega
 |n+1,e,hi,hl=>by
  rw[Zcp,Zcp];rcases uC i n with h1|h1
  ·have:=Zkn (n:=n) (λ v hv=>e v (by omega)) h1 hl;have:=e n (by omega);omega
  ·have:i=n:=by omega
   subst this;have:=Zid (n:=i) λ v hv=>e v (by omega)
   omega
theorem ZoF {g h:Nat->Int}{n i:Nat}{x:Int}(hi:i<n)(e:∀v,v<n->h v=g v+if i=v then x else 0):Zar h n=Zar g n+x:=by
 rw[Ze9 e,Zhw,Zic,if_pos hi]
abbrev Zcf (l:List Bd)(f:List Int)(v:Int):Int:=Zar (Zbq l f v) l.length
def ZhO (l:List Bd)(f:List Int)(R:Nat->Bool)(k:Nat):Int:=match l[k]? with|some b=>(if R b.2.1.toNat then at0 f k-b.2.2.2 else 0)-(if R b.1.toNat then at0 f k-b.2.2.2 else 0)|none=>0
theorem ZtA {n:Nat}{l:List Bd}{f:List Int}(hb:BdsOk n l)(hfl:f.length=l.length)(R:Nat->Bool):∀m,m<=l.length->
  Zar (λ v=>if R v then Zar (Zbq l f v) m else 0) n=Zar (ZhO l f R) m:=by
 intro m
 induction m with
 |zero=>intro _;simp only[Zar];rw[Ze9 (h:=λ _=>0) (λ v _=>by split<;>rfl),Zfa]
 |succ m ih=>
  intro hm;obtain⟨b,hbm⟩:=Zac (show m<l.length by omega);obtain⟨x,hx⟩:=Zac (show m<f.length by omega);have hbb:=hb m b hbm;have hx0:at0 f m=x:=by rw[at0,uK,hx];rfl
  rw[Zcp,<-ih (by omega),ZhO,hbm];dsimp only;have e:∀v,v<n->(if R v then Zar (Zbq l f v) (m+1)else 0)=(if R v then Zar (Zbq l f v) m else 0)+((if b.2.1.toNat=v then(if R b.2.1.toNat then x-b.2.2.2 else 0)else 0)+-(if b.1.toNat=v then(if R b.1.toNat then x-b.2.2.2 else 0)else 0)):=by
   intro v hv;have ea:Zbq l f v m=(if b.2.1=(v:Int)then x-b.2.2.2 else 0)-(if b.1=(v:Int)then x-b.2.2.2 else 0):=by simp[Zbq,hbm,hx]
   rw[Zcp,ea];by_cases c1:b.2.1.toNat=v
   ·have c2:¬b.1.toNat=v:=by omega
    rw[if_pos c1,if_neg c2,if_pos (show b.2.1=(v:Int) by omega),if_neg (show¬b.1=(v:Int) by omega),c1];split<;>omega
   ·rw[if_neg c1,if_neg (show¬b.2.1=(v:Int) by omega)];by_cases c2:b.1.toNat=v
    ·rw[if_pos c2,if_pos (show b.1=(v:Int) by omega),c2];split<;>omega
    ·rw[if_neg c2,if_neg (show¬b.1=(v:Int) by omega)];split<;>omega
  rw[Ze9 e,Zhw,Zhw,Zko,Zic,Zic,if_pos (show b.2.1.toNat<n by omega),if_pos (show b.1.toNat<n by omega),hx0];omega
theorem ZwX {l:List Bd}{f:List Int}{i:Nat}{b:Bd}{x v:Int}(hfl:f.length=l.length)(hb:l[i]? =some b):
  Zcf l (f.set i (at0 f i+x)) v=Zcf l f v+((if b.2.1=v then x else 0)-(if b.1=v then x else 0)):=by
 have hil:=(uB.1 hb).1;obtain⟨y,hy⟩:=Zac (show i<f.length by omega);have hy0:at0 f i=y:=by rw[at0,uK,hy];rfl
 refine ZoF (i:=i) hil λ k hk=>?_
 obtain⟨c,hc⟩:=Zac hk;obtain⟨z,hz⟩:=Zac (show k<f.length by omega);by_cases h:i=k
 ·subst h;rw[hb]at hc;cases hc;have e1:(f.set i (at0 f i+x))[i]? =some (y+x):=by rw[gU (by omega),hy0]
  simp only[Zbq,hb,hy,e1,if_true];split<;>split<;>omega
 ·have e1:(f.set i (at0 f i+x))[k]? =some z:=by rw[jH h,hz]
  simp only[Zbq,hc,hz,e1];rw[if_neg h,jW]
theorem ZAh (W:List Way)(nd:List Int):∀k,(ZaQ W nd k<0->∀u,u<k->¬(0<at0 nd u/\-576460752303423488<lgW W u))/\(0<=ZaQ W nd k->0<at0 nd (ZaQ W nd k)/\-576460752303423488<(wAt W (ZaQ W nd k)).1):=by
 intro k
 induction k with
 |zero=>exact⟨λ _ u hu=>by omega,λ h=>by simp[ZaQ]at h⟩
 |succ k ih=>
  rw[ZaQ];split
  ·rename_i h;exact⟨λ h=>by omega,λ _=>⟨h.1,h.2.1⟩⟩
  ·rename_i h;refine⟨λ hn u hu hc=>?_,ih.2⟩;rcases uC u k with h1|h1
   ·exact ih.1 hn u h1 hc
   ·have:u=k:=by omega
    subst this;exact h ⟨hc.1,hc.2, .inl hn⟩
theorem ZjR {nd:List Int}{v:Nat}:∀{n:Nat},(v:Int)∈Zb2 nd n↔v<n/\at0 nd v<0:=by
 intro n;rw[Zb2,ZjP];constructor
 ·rintro⟨k,hk,h⟩;rw[Zg7]at h;split at h
  ·rename_i hn;have:=uT.1 h;have:v=k:=by omega
   subst this;exact⟨hk,hn⟩
  ·simp at h
 ·rintro⟨h1,h2⟩;exact⟨v,h1,by rw[Zg7,if_pos h2];simp⟩
theorem ZqL {q:Nat->Bool}{k m:Nat}(hk:k<m)(h1:∀j,j<k->q j=false)(h2:q k=true):Zb1 q m=some k:=by
 refine ZqK hk ?_ h2;have:∀i,i<=k->Zb1 q i=none:=by
  intro i
  induction i with
  |zero=>intro _;rfl
  |succ i ih=>intro hi;exact ZqM (ih (by omega)) (h1 i (by omega))
 exact this k (uI _)
theorem ZnC (W:List Way)(f:List Int)(m0 v:Int):∀k,Zcm W f m0 v k<=m0/\∀j,j<k->(Zax W v j).2.2.2=true->Zcm W f m0 v k<=at0 f (Zax W v j).2.2.1:=by
 intro k
 induction k with
 |zero=>exact⟨qL _,λ j hj=>by omega⟩
 |succ k ih=>
  rw[Zlo];refine⟨?_,λ j hj hb=>?_⟩
  ·split<;>omega
  ·rcases uC j k with h1|h1
   ·have:=ih.2 j h1 hb;split<;>omega
   ·have:j=k:=by omega
    subst this;rw[if_pos hb];omega
theorem Zr4 {W:List Way}{f:List Int}{m0 v:Int}(h0:0<m0):∀k,(∀j,j<k->(Zax W v j).2.2.2=true->0<at0 f (Zax W v j).2.2.1)->0<Zcm W f m0 v k:=by
 intro k
 induction k with
 |zero=>intro _;exact h0
 |succ k ih=>
  intro h;rw[Zlo];have:=ih λ j hj=>h j (by omega)
  split
  ·rename_i hb;have:=h k (by omega) hb;omega
  ·exact this
section sent
variable {n K:Nat}{l:List Bd}{f:List Int}{W:List Way}{t m:Int}
structure ChainOk (n:Nat)(l:List Bd)(f:List Int)(W:List Way)(t:Int)(K:Nat):Prop where
 step:∀j,j<K->∃(k:Nat) (b:Bd),l[k]? =some b/\(Zax W t j).2.2.1=k/\(((Zax W t j).2.2.2=false/\b.1=Zaj W t (j+1)/\b.2.1=Zaj W t j)\/((Zax W t j).2.2.2=true/\0<at0 f k/\b.2.1=Zaj W t (j+1)/\b.1=Zaj W t j))
 inj:∀i j,i<j->j<K->Zaj W t i≠Zaj W t j
variable (hc:ChainOk n l f W t K)(hfl:f.length=l.length)
include hc hfl
theorem Ztx {k:Nat}(hk:k<K)(b:Nat):at0 (Zbv W f m t (k+1)) b=at0 (Zbv W f m t k) b+(if(Zax W t k).2.2.1=b then(if(Zax W t k).2.2.2 then -m else m)else 0):=by
 obtain⟨i,bd,hi,he,_⟩:=hc.step k hk;have hil:=(uB.1 hi).1;rw[Zki,he,uK,Zel _ _ _ _ (by omega)];by_cases h:i=b
 ·subst h;rw[if_pos ⟨rfl,by rw[Zgd,hfl];exact hil⟩,if_pos rfl]
 ·rw[if_neg (by omega),if_neg (by omega),jW]
theorem Zop (hm:0<=m):∀k,k<=K->∀b:Nat,((∀j,j<k->¬((Zax W t j).2.2.2=true/\(Zax W t j).2.2.1=b))->at0 f b<=at0 (Zbv W f m t k) b)/\at0 f b-m<=at0 (Zbv W f m t k) b:=by
 intro k
 induction k with
 |zero=>intro _ b;exact⟨λ _=>qL _,by show at0 f b-m<=at0 f b;omega⟩
 |succ k ih=>
  intro hk b;obtain⟨i1,i2⟩:=ih (by omega) b;rw[Ztx hc hfl (by omega)];refine⟨λ h=>?_,?_⟩
  ·have:=i1 λ j hj=>h j (by omega)
   split
   ·rename_i he;split
    ·rename_i hb;exact absurd ⟨hb,he⟩ (h k (by omega))
    ·omega
   ·omega
  ·split
   ·rename_i he;split
    ·rename_i hb;have:at0 f b<=at0 (Zbv W f m t k) b:=i1 λ j hj ⟨hbj,hej⟩=>by
      obtain⟨x,bx,hx,ex,hxx⟩:=hc.step j (by omega);obtain⟨y,by_,hy,ey,hyy⟩:=hc.step k (by omega);have:x=y:=by omega
      subst this;rw[hx]at hy;cases hy;rcases hxx with⟨h1,_⟩|⟨_,_,_,h1⟩
      ·rw[h1]at hbj;cases hbj
      ·rcases hyy with⟨h2,_⟩|⟨_,_,_,h2⟩
       ·rw[h2]at hb;cases hb
       ·exact hc.inj j k hj (by omega) (by rw[<-h1,<-h2])
     omega
    ·omega
   ·omega
theorem Zty (hm:0<=m):∀k,k<=K->∀b:Nat,((∀j,j<k->¬((Zax W t j).2.2.2=false/\(Zax W t j).2.2.1=b))->at0 (Zbv W f m t k) b<=at0 f b)/\at0 (Zbv W f m t k) b<=at0 f b+m:=by
 intro k
 induction k with
 |zero=>intro _ b;exact⟨λ _=>qL _,by show at0 f b<=at0 f b+m;omega⟩
 |succ k ih=>
  intro hk b;obtain⟨i1,i2⟩:=ih (by omega) b;rw[Ztx hc hfl (by omega)];refine⟨λ h=>?_,?_⟩
  ·have:=i1 λ j hj=>h j (by omega)
   split
   ·rename_i he;split
    ·omega
    ·rename_i hb;exact absurd ⟨by simpa using hb,he⟩ (h k (by omega))
   ·omega
  ·split
   ·rename_i he;split
    ·omega
    ·rename_i hb;have hb:(Zax W t k).2.2.2=false:=by simpa using hb
     have:at0 (Zbv W f m t k) b<=at0 f b:=i1 λ j hj ⟨hbj,hej⟩=>by
      obtain⟨x,bx,hx,ex,hxx⟩:=hc.step j (by omega);obtain⟨y,by_,hy,ey,hyy⟩:=hc.step k (by omega);have:x=y:=by omega
      subst this;rw[hx]at hy;cases hy;rcases hxx with⟨_,_,h1⟩|⟨h1,_⟩
      ·rcases hyy with⟨_,_,h2⟩|⟨h2,_⟩
       ·exact hc.inj j k hj (by omega) (by rw[<-h1,<-h2])
       ·rw[h2]at hb;cases hb
      ·rw[h1]at hbj;cases hbj
     omega
   ·omega
theorem Ztw (v:Int):∀k,k<=K->Zcf l (Zbv W f m t k) v=Zcf l f v+((if t=v then m else 0)-(if Zaj W t k=v then m else 0)):=by
 intro k
 induction k with
 |zero=>intro _;show Zcf l f v=Zcf l f v+((if t=v then m else 0)-(if t=v then m else 0));omega
 |succ k ih=>
  intro hk;obtain⟨i,b,hi,he,h⟩:=hc.step k (by omega);rw[Zki,he,uK,ZwX (by rw[Zgd,hfl]) hi,ih (by omega)];rcases h with⟨h1,h2,h3⟩|⟨h1,_,h2,h3⟩
  ·rw[show(if(Zax W t k).2.2.2=true then -m else m)=m by rw[h1];rfl,h2,h3];omega
  ·rw[show(if(Zax W t k).2.2.2=true then -m else m)=-m by rw[h1];rfl,h2,h3];split<;>split<;>split<;>omega
end sent
end partZa
section partZb
instance rchDec (W:List Way)(v:Nat):Decidable (Rch W v):=inferInstanceAs (Decidable (lgW W v≠-1152921504606846976))
theorem ZsF (p:Nat->Int):∀m:Nat,∃lo:Int,∀v:Nat,v<m->lo<=p v:=by
 intro m
 induction m with
 |zero=>exact⟨0,λ v hv=>by omega⟩
 |succ m ih=>
  obtain⟨lo,h⟩:=ih;refine⟨min lo (p m),λ v hv=>?_⟩;rcases uC v m with h1|h1
  ·have:=h v h1;omega
  ·have:v=m:=by omega
   subst this;omega
theorem ZAy (p:Nat->Int):∀m:Nat,∃hi:Int,∀v:Nat,v<m->p v<=hi:=by
 intro m;obtain⟨lo,h⟩:=ZsF (λ v=>-(p v)) m;exact⟨-lo,λ v hv=>by have:=h v hv;omega⟩
def ZgG (nd:List Int)(n:Nat):Int:=Zar (λ v=>max 0 (at0 nd v)) n
theorem ZlB (nd:List Int)(n:Nat):0<=ZgG nd n:=by
 have:=Zid (g:=λ _=>0) (h:=λ v:Nat=>max 0 (at0 nd v)) (n:=n) λ v _=>by omega
 rwa [Zfa]at this
structure Cert (n:Nat)(l:List Bd)(T:Int)(f nd:List Int):Prop where
 fl:f.length=l.length
 nl:nd.length=n
 pos:∀k:Nat,0<=at0 f k
 pot:∃p,Pot (Zau l f) p
 dv:∀v:Nat,v<n->at0 nd v=-(Zcf l f v)
 low:∀v:Nat,v<n->-T<=at0 nd v/\at0 nd v<=T
 cap:∀k:Nat,at0 f k+ZgG nd n<=T
theorem Zq6 {f:List Int}{T:Int}(hT:T<=1125899906842624)(h:∀k:Nat,k<f.length->-T<=at0 f k/\at0 f k<=T):inB f=true:=by
 simp only[inB,uZ,uF];intro x hx;obtain⟨k,hk⟩:=yW hx;have hkl:=(uB.1 hk).1;have:=h k hkl;have e:at0 f k=x:=by rw[at0,uK,hk];rfl
 omega
theorem Zwk {n:Nat}{l:List Bd}{T:Int}{f nd:List Int}(hb:BdsOk n l)(hn:n<=2048)(hT:T<=1125899906842624)(h:Cert n l T f nd)(hneg:∃s:Nat,s<n/\at0 nd s<0):
  ∃f' nd',ZkZ n l f nd=some (f',nd')/\Cert n l T f' nd'/\ZgG nd' n<ZgG nd n:=by
 obtain⟨p,hp⟩:=h.pot;have hg:=steps_good (f:=f) hb;obtain⟨n1,n2⟩:=ZjV nd n;obtain⟨W,hW,hI,hO1,hO2⟩:=Ztu hp hg hn n1 n2;have hS:∀v:Nat,(v:Int)∈Zb2 nd n->v<n:=λ v hv=>(ZjR.1 hv).1
 obtain⟨lo,hlo⟩:=ZsF p n;have hlo':∀v:Nat,(v:Int)∈Zb2 nd n->lo<=p v:=λ v hv=>hlo v (hS v hv)
 have hlow:∀v:Nat,v<n->Rch W v->-34359738368<=lgW W v:=by
  intro v hv hr;obtain⟨k,hk,hw⟩:=opt_short hg hS (hO2 v hv hr).1;have:=Zks hg hw;omega
 have hrs:∀v:Nat,v<n->Rch W v->∀s∈Zau l f v,Rch W s.1.toNat:=by
  intro v hv hr s hs;obtain⟨⟨j,hw⟩,_⟩:=(hO2 v hv hr).1;obtain⟨d,hd⟩:=ZnR hp hlo' (Wk.step j v _ s hw hs);exact(hO1 _ _ hd).1
 have hstart:∀v:Nat,v<n->at0 nd v<0->Rch W v:=by
  intro v hv hx;have:=(hI.starts v (ZjR.2 ⟨hv,hx⟩)).2;rw[Rch];omega
 have hout:∀(k:Nat) b,l[k]? =some b->Rch W b.1.toNat->Rch W b.2.1.toNat/\lgW W b.1.toNat+b.2.2.1<=lgW W b.2.1.toNat:=by
  intro k b hk hr;have hbb:=hb k b hk;have hm:((b.2.1,b.2.2.1,(k:Int),false):Stp)∈Zau l f b.1.toNat:=mem_steps.2 ⟨k,b,hk, .inl ⟨by omega,rfl⟩⟩;have h1:=hrs b.1.toNat (by omega) hr _ hm;have h2:=(hO2 b.1.toNat (by omega) hr).2 _ hm;dsimp only at h1 h2;refine⟨h1,?_⟩;rw[lgW,lgW,show((b.2.1.toNat:Nat):Int)=b.2.1 by omega];exact h2
 have hinn:∀(k:Nat) b,l[k]? =some b->0<at0 f k->Rch W b.2.1.toNat->Rch W b.1.toNat/\lgW W b.2.1.toNat<=lgW W b.1.toNat+b.2.2.1:=by
  intro k b hk hf hr;have hbb:=hb k b hk;have hm:((b.1,-b.2.2.1,(k:Int),true):Stp)∈Zau l f b.2.1.toNat:=mem_steps.2 ⟨k,b,hk, .inr ⟨hf,by omega,rfl⟩⟩;have h1:=hrs b.2.1.toNat (by omega) hr _ hm;have h2:=(hO2 b.2.1.toNat (by omega) hr).2 _ hm;dsimp only at h1 h2;refine⟨h1,?_⟩;rw[lgW,show lgW W b.1.toNat=(wAt W b.1).1 by rw[lgW,show((b.1.toNat:Nat):Int)=b.1 by omega]];rw[lgW]at h2;omega
 have hneed:∃u:Nat,u<n/\Rch W u/\0<at0 nd u:=by
  refine qY λ hno=>?_
  have hle:∀v:Nat,v<n->Rch W v->at0 nd v<=0:=λ v hv hr=>by
   rcases Bg 0 (at0 nd v)with h1|h1
   ·exact absurd ⟨v,hv,hr,h1⟩ hno
   ·exact h1
  obtain⟨s,hs,hs0⟩:=hneg;have hA:=ZtA hb h.fl (λ v=>decide (Rch W v)) l.length (uI _);have h1:Zar (ZhO l f (λ v=>decide (Rch W v))) l.length<=0:=by
   have:=Zid (g:=ZhO l f (λ v=>decide (Rch W v))) (h:=λ _=>0) (n:=l.length) λ k hk=>by
    obtain⟨b,hbk⟩:=Zac hk;have hbb:=hb k b hbk;simp only[ZhO,hbk,uF];have:=h.pos k;by_cases c1:Rch W b.1.toNat
    ·rw[if_pos c1,if_pos (hout k b hbk c1).1];omega
    ·rw[if_neg c1];by_cases c2:Rch W b.2.1.toNat
     ·rw[if_pos c2];have:¬0<at0 f k:=λ hf=>c1 (hinn k b hbk hf c2).1
      omega
     ·rw[if_neg c2];omega
   rwa [Zfa]at this
  have h2:0<Zar (λ v=>if decide (Rch W v)=true then Zar (Zbq l f v) l.length else 0) n:=by
   have:=Zkn (g:=λ _=>0) (h:=λ v:Nat=>if decide (Rch W v)=true then Zar (Zbq l f v) l.length else 0) (i:=s) (n:=n) (λ v hv=>by
    simp only[uF];split
    ·rename_i hr;have:=h.dv v hv;have:=hle v hv hr;simp only[Zcf]at*;omega
    ·exact qL _) hs (by
    have hr:=hstart s hs hs0;have:=h.dv s hs;rw[if_pos (yB hr)];simp only[Zcf]at this;omega)
   rwa [Zfa]at this
  omega
 obtain⟨u,hu,hur,hu0⟩:=hneed;have hpk:=Zlx W nd n;obtain⟨pk1,pk2⟩:=ZAh W nd n;have ht0:0<=ZaQ W nd n:=by
  rcases Bg (ZaQ W nd n) 0 with h1|h1
  ·exact absurd ⟨hu0,by have:=hlow u hu hur;omega⟩ (pk1 h1 u hu)
  ·exact h1
 obtain⟨hnt,hlt⟩:=pk2 ht0;obtain⟨t,htt⟩:∃t:Nat,ZaQ W nd n=t:=⟨(ZaQ W nd n).toNat,by omega⟩;rw[htt]at hnt hlt;have htn:t<n:=by omega
 have htr:Rch W t:=by rw[Rch,lgW];omega
 obtain⟨K,hK⟩:=hI.chain t htn htr;have hcp:=ZmI hp hI htn htr hK.2;have hinj:=ZDs hK;have hKn:K+1<=n:=Znm (g:=λ i=>(Zaj W t i).toNat) (λ i hi=>by
  obtain⟨x,hx,hxn,_⟩:=hcp i (by omega);show(Zaj W t i).toNat<n;rw[hx];omega) (λ i j hij hj he=>by
  obtain⟨x,hx,_⟩:=hcp i (by omega);obtain⟨y,hy,_⟩:=hcp j (by omega);refine hinj i j hij (by omega) ?_;have he:(Zaj W t i).toNat=(Zaj W t j).toNat:=he;rw[hx,hy]at he|-;omega)
 have hstop:Zoy W t (n+1)=some K:=ZqL (by omega) hK.2 hK.1
 have hlink:∀j,j<K->∃x v:Nat,Zaj W t j=v/\Zaj W t (j+1)=x/\x<n/\v<n/\Rch W x/\Rch W v/\Zax W t j∈Zau l f x/\(Zax W t j).1=v/\lgW W v<=lgW W x+(Zax W t j).2.1:=by
  intro j hj;obtain⟨v,hv,hvn,hvr,_⟩:=hcp j (by omega);have hbg:=hK.2 j hj;rw[hv]at hbg;rcases hI.par v hvn hvr with⟨h1,_⟩|⟨x,hx,hxr,h1,h2,h3,_,h5⟩
  ·rw[bgW,h1]at hbg;cases hbg
  ·exact⟨x,v,hv,by rw[ZdU,hv];exact h1,hx,hvn,hxr,hvr,by rw[Zax,hv];exact h2,by rw[Zax,hv];exact h3,by rw[Zax,hv];exact h5⟩
 have hco:ChainOk n l f W t K:=by
  refine⟨λ j hj=>?_,λ i j hij hj=>hinj i j hij (by omega)⟩;obtain⟨x,v,hv,hx,hxn,hvn,hxr,hvr,h1,h2,h3⟩:=hlink j hj;obtain⟨k,b,hk,h4⟩:=mem_steps.1 h1;refine⟨k,b,hk,?_⟩;rcases h4 with⟨h4,h5⟩|⟨h4,h5,h6⟩
  ·rw[h5]at h2|-;exact⟨rfl, .inl ⟨rfl,by rw[hx];exact h4,by rw[hv];exact h2⟩⟩
  ·rw[h6]at h2|-;exact⟨rfl, .inr ⟨rfl,h4,by rw[hx];exact h5,by rw[hv];exact h2⟩⟩
 obtain⟨s,hs,hsn,hsr,_⟩:=hcp K (uI _);have hsneg:at0 nd s<0:=by
  have hbg:=hK.1;rw[hs]at hbg;rcases hI.par s hsn hsr with⟨_,h2⟩|⟨_,_,_,_,_,_,h4,_⟩
  ·exact(ZjR.1 h2).2
  ·rw[hbg]at h4;cases h4
 have hst:s≠t:=λ he=>by rw[he]at hsneg;omega
 have hml:=ZnC W f (at0 nd t) t K;have hmp:0<Zcm W f (at0 nd t) t K:=Zr4 hnt K λ j hj hbk=>by
  obtain⟨k,b,_,he,hh⟩:=hco.step j hj;rcases hh with⟨h1,_⟩|⟨_,h1,_⟩
  ·rw[h1]at hbk;cases hbk
  ·rw[he];exact h1
 have hsm:=Zoo W f nd t K;rw[hs]at hsm;generalize hmdef:Ze7 W f nd t K=m at hsm;have hm0:0<m:=by omega
 have hmt:m<=at0 nd t:=by omega
 have hms:m<=-(at0 nd s):=by omega
 have hmb:∀j,j<K->(Zax W t j).2.2.2=true->m<=at0 f (Zax W t j).2.2.1:=λ j hj hbk=>by have:=hml.2 j hj hbk;omega
 have hsl:=Zop hco h.fl (Df hm0) K (uI _);have hsu:=Zty hco h.fl (Df hm0) K (uI _);have hsd:=λ v:Int=>Ztw (m:=m) hco h.fl v K (uI _)
 have hps:=ZlB nd n;have hfin:∀k:Nat,k<f.length->-T<=at0 f k/\at0 f k<=T:=λ k _=>by have:=h.pos k;have:=h.cap k;omega
 have hl0:0<l.length:=by
  rcases qU l.length with h0|h0
  ·have:=h.dv t htn;simp only[Zcf,h0,Zar]at this;omega
  ·exact h0
 have hwo:Zif n l.length W=true:=by
  simp only[Zif,uM,uF,uZ];refine⟨hI.len,λ w hw=>?_⟩;obtain⟨i,hi⟩:=yW hw;have hin:i<n:=by have:=(uB.1 hi).1;rw[hI.len]at this;exact this
  have hwi:wAt W (i:Int)=w:=by rw[wAt,uK,hi];rfl
  rcases hI.sound i hin with h1|⟨h1,_⟩
  ·rw[<-hwi,h1];simp[ZdS];omega
  ·rcases hI.par i hin h1 with⟨h2,_⟩|⟨x,hx,_,h2,h3,_⟩
   ·rw[<-hwi,h2];simp[ZdE];omega
   ·rw[hwi]at h2 h3;obtain⟨k,b,hk,h4⟩:=mem_steps.1 h3;have hkl:=(uB.1 hk).1;rcases h4 with⟨_,h5⟩|⟨_,_,h5⟩<;>(rw[h5,h2];dsimp only;omega)
 have hcond:(decide (0<=ZaQ W nd n)&&Zif n l.length W&&inB f&&inB nd)=true:=by
  rw[hwo,Zq6 hT hfin,Zq6 hT (λ k hk=>h.low k (by rw[<-h.nl];exact hk)),yB ht0];rfl
 have hat:∀v:Nat,v<n->at0 ((nd.set s (at0 nd s+m)).set t (at0 (nd.set s (at0 nd s+m)) t-m)) v=at0 nd v+((if s=v then m else 0)-(if t=v then m else 0)):=by
  intro v hv;have e1:∀v:Nat,at0 (nd.set s (at0 nd s+m)) v=if v=s then at0 nd s+m else at0 nd v:=λ v=>by
   rw[Zel _ _ _ _ (by omega)];by_cases h1:v=s
   ·rw[if_pos ⟨by omega,by rw[h.nl];exact hsn⟩,if_pos h1]
   ·rw[if_neg (by omega),if_neg h1]
  rw[Zel _ _ _ _ (by omega),e1 t,if_neg (show¬t=s from λ he=>hst he.symm)];by_cases h1:v=t
  ·subst h1;rw[if_pos ⟨rfl,by rw[yJ,h.nl];exact hv⟩,if_neg hst,if_pos rfl];omega
  ·rw[if_neg (by omega),e1 v,if_neg (show¬t=v from λ he=>h1 he.symm)];by_cases h2:v=s
   ·subst h2;rw[if_pos rfl,if_pos rfl];omega
   ·rw[if_neg h2,if_neg (λ he=>h2 he.symm)];omega
 have hps':ZgG ((nd.set s (at0 nd s+m)).set t (at0 (nd.set s (at0 nd s+m)) t-m)) n=ZgG nd n+-m:=by
  refine ZoF (i:=t) htn λ v hv=>?_
  rw[hat v hv];by_cases h1:t=v
  ·subst h1;rw[if_pos rfl,if_neg hst,if_pos rfl];omega
  ·rw[if_neg h1,if_neg h1];by_cases h2:s=v
   ·subst h2;rw[if_pos rfl];omega
   ·rw[if_neg h2];omega
 refine⟨Zbv W f m t K,(nd.set s (at0 nd s+m)).set t (at0 (nd.set s (at0 nd s+m)) t-m),?_,?_,by omega⟩
 ·rw[ZkZ,hW];dsimp only;rw[htt]at hcond;rw[htt,hstop];dsimp only;rw[if_pos hcond,hmdef,hs,uK,uK]
 ·obtain⟨hi,hhi⟩:=ZAy p n;refine⟨by rw[Zgd,h.fl],by rw[yJ,yJ,h.nl],λ k=>?_,?_,λ v hv=>?_,λ v hv=>?_,λ k=>?_⟩
  ·obtain⟨a1,a2⟩:=hsl k;have:=h.pos k;by_cases hex:∃j,j<K/\(Zax W t j).2.2.2=true/\(Zax W t j).2.2.1=k
   ·obtain⟨j,hj,h1,h2⟩:=hex;have:=hmb j hj h1;rw[h2]at this;omega
   ·have:=a1 λ j hj hh=>hex ⟨j,hj,hh.1,hh.2⟩
    omega
  ·
   refine⟨λ v=>if Rch W v then lgW W v else p v-(hi+34359738368+16777216),(Zfv hb).2 λ k b hk=>?_⟩;have hbb:=hb k b hk;have hpb:=(Zfv hb).1 hp k b hk;have hh1:=hhi b.1.toNat (by omega)
   try dsimp only
   by_cases c1:Rch W b.1.toNat
   ·obtain⟨c2,c3⟩:=hout k b hk c1;rw[if_pos c1,if_pos c2];refine⟨c3,λ hf=>?_⟩;by_cases c4:0<at0 f k
    ·exact(hinn k b hk c4 c2).2
    ·have hex:∃j,j<K/\(Zax W t j).2.2.2=false/\(Zax W t j).2.2.1=k:=qY λ hno=>by
      have:=(hsu k).1 λ j hj hh=>hno ⟨j,hj,hh.1,hh.2⟩
      omega
     obtain⟨j,hj,h1,h2⟩:=hex;obtain⟨x,v,hv,hx,_,_,_,_,_,_,h3⟩:=hlink j hj;obtain⟨k',b',hk',he,hcase⟩:=hco.step j hj;have:k'=k:=by omega
     subst this;rw[hk]at hk';cases hk';rcases hcase with⟨_,h4,h5⟩|⟨h4,_⟩
     ·have hlen:(Zax W t j).2.1=b.2.2.1:=by
       obtain⟨x',v',hv',hx',_,_,_,_,h6,_⟩:=hlink j hj;obtain⟨k2,b2,hk2,h7⟩:=mem_steps.1 h6;rcases h7 with⟨_,h8⟩|⟨_,_,h8⟩
       ·rw[h8]at he|-;have:k2=k':=by dsimp only at he;omega
        subst this;rw[hk]at hk2;cases hk2;rfl
       ·rw[h8]at h1;cases h1
      rw[hlen]at h3;rw[show b.1.toNat=x by rw[h4,hx];omega,show b.2.1.toNat=v by rw[h5,hv];omega];exact h3
     ·rw[h1]at h4;cases h4
   ·rw[if_neg c1];have hnof:Rch W b.2.1.toNat->¬0<at0 (Zbv W f m t K) k:=by
     intro c2 hf;have c4:¬0<at0 f k:=λ h0=>c1 (hinn k b hk h0 c2).1
     have hex:∃j,j<K/\(Zax W t j).2.2.2=false/\(Zax W t j).2.2.1=k:=qY λ hno=>by
      have:=(hsu k).1 λ j hj hh=>hno ⟨j,hj,hh.1,hh.2⟩
      omega
     obtain⟨j,hj,h1,h2⟩:=hex;obtain⟨x,v,hv,hx,_,_,hxr,_⟩:=hlink j hj;obtain⟨k',b',hk',he,hcase⟩:=hco.step j hj;have:k'=k:=by omega
     subst this;rw[hk]at hk';cases hk';rcases hcase with⟨_,h4,_⟩|⟨h4,_⟩
     ·exact c1 (by rw[show b.1.toNat=x by rw[h4,hx];omega];exact hxr)
     ·rw[h1]at h4;cases h4
    by_cases c2:Rch W b.2.1.toNat
    ·rw[if_pos c2];have:=hlow b.2.1.toNat (by omega) c2;exact⟨by omega,λ hf=>absurd hf (hnof c2)⟩
    ·rw[if_neg c2];refine⟨by omega,λ hf=>?_⟩;by_cases c4:0<at0 f k
     ·have:=hpb.2 c4;omega
     ·exfalso;have hex:∃j,j<K/\(Zax W t j).2.2.2=false/\(Zax W t j).2.2.1=k:=qY λ hno=>by
       have:=(hsu k).1 λ j hj hh=>hno ⟨j,hj,hh.1,hh.2⟩
       omega
      obtain⟨j,hj,h1,h2⟩:=hex;obtain⟨x,v,hv,hx,_,_,hxr,_⟩:=hlink j hj;obtain⟨k',b',hk',he,hcase⟩:=hco.step j hj;have:k'=k:=by omega
      subst this;rw[hk]at hk';cases hk';rcases hcase with⟨_,h4,_⟩|⟨h4,_⟩
      ·exact c1 (by rw[show b.1.toNat=x by rw[h4,hx];omega];exact hxr)
      ·rw[h1]at h4;cases h4
  ·rw[hat v hv,hsd v,h.dv v hv,hs];by_cases c1:s=v<;>by_cases c2:t=v
   ·rw[if_pos c1,if_pos c2,if_pos (by omega),if_pos (by omega)];omega
   ·rw[if_pos c1,if_neg c2,if_neg (by omega),if_pos (by omega)];omega
   ·rw[if_neg c1,if_pos c2,if_pos (by omega),if_neg (by omega)];omega
   ·rw[if_neg c1,if_neg c2,if_neg (by omega),if_neg (by omega)];omega
  ·rw[hat v hv];have:=h.low v hv;by_cases c1:s=v<;>by_cases c2:t=v
   ·exact absurd (c1.trans c2.symm) hst
   ·subst c1;rw[if_pos rfl,if_neg c2];omega
   ·subst c2;rw[if_neg c1,if_pos rfl];omega
   ·rw[if_neg c1,if_neg c2];omega
  ·have:=(hsu k).2;have:=h.cap k;omega
theorem Zwj {n:Nat}{l:List Bd}{T:Int}(hb:BdsOk n l)(hn:n<=2048)(hT:T<=1125899906842624):∀(R:Nat) (f nd:List Int),Cert n l T f nd->ZgG nd n<R->
  ∃f1 nd1,Zgl n l R f nd=some f1/\Cert n l T f1 nd1/\∀v:Nat,v<n->0<=at0 nd1 v:=by
 intro R
 induction R with
 |zero=>intro f nd h hR;have:=ZlB nd n;omega
 |succ R ih=>
  intro f nd h hR;rw[Zgl];rcases hem:(Zb2 nd n).isEmpty with _|_
  ·have hex:∃s:Nat,s<n/\at0 nd s<0:=by
    cases hl:Zb2 nd n with
    |nil=>rw[hl]at hem;cases hem
    |cons x r=>
     have hx:x∈Zb2 nd n:=by rw[hl];simp
     have hxb:=(ZjV nd n).1 x hx;have:=ZjR.1 (show((x.toNat:Nat):Int)∈Zb2 nd n by rw[show((x.toNat:Nat):Int)=x by omega];exact hx);exact⟨_,this.1,this.2⟩
   obtain⟨f',nd',h1,h2,h3⟩:=Zwk hb hn hT h hex;rw[if_neg (by decide),h1]
   try dsimp only
   exact ih f' nd' h2 (by omega)
  ·rw[if_pos rfl];refine⟨f,nd,rfl,h,λ v hv=>?_⟩;rcases Bg (at0 nd v) 0 with h1|h1
   ·have:=(ZjR (n:=n)).2 ⟨hv,h1⟩;rw[Ag.1 hem]at this;simp at this
   ·exact h1
end partZb
end Go.Proofs.YtjjbhjnpeenbkaaGreatDoor.Sx
