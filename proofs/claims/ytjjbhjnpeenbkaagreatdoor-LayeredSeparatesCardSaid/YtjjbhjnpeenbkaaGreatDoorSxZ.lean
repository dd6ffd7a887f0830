/- The net of a problem: its potentials, the least ranks; certificates are found. -/
import Derived.Test.YtjjbhjnpeenbkaaGreatDoorSxU
import Derived.Test.YtjjbhjnpeenbkaaGreatDoorSxL
set_option linter.unusedSimpArgs false
set_option linter.unusedVariables false
set_option maxHeartbeats 16000000
namespace Go.Proofs.YtjjbhjnpeenbkaaGreatDoor.Sx
open Go Go.PS Go.Proofs
section partZ
theorem ZsK {α:Type}{g:Nat->List α}{x:α}:∀{n:Nat},x∈Za2 g n↔∃k,k<n/\x∈g k:=by
 intro n
 induction n with
 |zero=>simp[Za2]
 |succ n ih=>
  simp only[Za2,yK,ih];constructor
  ·rintro(⟨k,hk,h⟩|h)
   ·exact⟨k,by omega,h⟩
   ·exact⟨n,by omega,h⟩
  ·rintro⟨k,hk,h⟩;rcases uE k n with h1|h1
   ·exact .inl ⟨k,h1,h⟩
   ·have:k=n:=by omega
    subst this;exact .inr h
theorem Zgy {l:List Bd}{f:List Int}{v:Nat}{s:Stp}:s∈Zaz l f v↔∃(k:Nat) (b:Bd),l[k]? =some b/\((b.1=v/\s=(b.2.1,b.2.2.1,(k:Int),false))\/(0<at0 f k/\b.2.1=v/\s=(b.1,-b.2.2.1,(k:Int),true))):=by
 rw[Zaz,Zfi,ZsK];constructor
 ·rintro⟨k,hk,h⟩;obtain⟨b,hb⟩:=Zac hk;refine⟨k,b,hb,?_⟩;simp only[Zip,hb,yK]at h;rcases h with h|h
  ·split at h
   ·rename_i h1;exact .inl ⟨h1,uS.1 h⟩
   ·simp at h
  ·split at h
   ·rename_i h1;exact .inr ⟨h1.1,h1.2,uS.1 h⟩
   ·simp at h
 ·rintro⟨k,b,hb,h⟩;refine⟨k,(uB.1 hb).1,?_⟩;simp only[Zip,hb,yK];rcases h with⟨h1,rfl⟩|⟨h1,h2,rfl⟩
  ·left;rw[if_pos h1];simp
  ·right;rw[if_pos ⟨h1,h2⟩];simp
def Zb3 (n:Nat)(l:List Bd):Prop:=∀(k:Nat) b,l[k]? =some b->0<=b.1/\b.1<(n:Int)/\0<=b.2.1/\b.2.1<(n:Int)/\b.1≠b.2.1/\-16777216<=b.2.2.1/\b.2.2.1<=16777216/\0<=b.2.2.2/\b.2.2.2<=8000
theorem Zfq {n:Nat}{l:List Bd}(h:nOk ((n:Int),l)=true):Zb3 n l/\n<=2048/\l.length<=4096:=by
 obtain⟨h1,h2,h3,h4⟩:=Zic h;dsimp only at h1 h2 h3 h4;exact⟨h4,by omega,h3⟩
theorem Ziq {n:Nat}{l:List Bd}{f:List Int}(hb:Zb3 n l):Zc0 n (Zaz l f):=by
 intro v s hs;obtain⟨k,b,hk,h⟩:=Zgy.1 hs;have:=hb k b hk;rcases h with⟨h1,rfl⟩|⟨h1,h2,rfl⟩<;>dsimp only<;>omega
def PotB (l:List Bd)(f:List Int)(p:Nat->Int):Prop:=∀(k:Nat) b,l[k]? =some b->p b.1.toNat+b.2.2.1<=p b.2.1.toNat/\(0<at0 f k->p b.2.1.toNat<=p b.1.toNat+b.2.2.1)
theorem Zje {n:Nat}{l:List Bd}{f:List Int}{p:Nat->Int}(hb:Zb3 n l):Pot (Zaz l f) p↔PotB l f p:=by
 constructor
 ·intro h k b hk;have hbk:=hb k b hk;refine⟨h b.1.toNat (b.2.1,b.2.2.1,(k:Int),false) (Zgy.2 ⟨k,b,hk, .inl ⟨by omega,rfl⟩⟩),λ hf=>?_⟩;have:=h b.2.1.toNat (b.1,-b.2.2.1,(k:Int),true) (Zgy.2 ⟨k,b,hk, .inr ⟨hf,by omega,rfl⟩⟩);dsimp only at this;omega
 ·intro h v s hs;obtain⟨k,b,hk,h1⟩:=Zgy.1 hs;have hbk:=hb k b hk;obtain⟨e1,e2⟩:=h k b hk;rcases h1 with⟨h1,rfl⟩|⟨h1,h2,rfl⟩
  ·dsimp only;rw[show v=b.1.toNat by omega];exact e1
  ·have:=e2 h1;dsimp only;rw[show v=b.2.1.toNat by omega];omega
abbrev ZkN (n:Nat):Nat->Prop:=λ v=>(v:Int)∈Zce n
theorem Zj9 {n v:Nat}:(v:Int)∈Zce n↔v<n:=by
 rw[Zce,uP];constructor
 ·rintro⟨u,hu,h⟩;have:=uZ.1 hu;omega
 ·intro h;exact⟨v,uZ.2 h,rfl⟩
theorem ZBY {n:Nat}{l:List Bd}{f:List Int}(hb:Zb3 n l){W:List Way}(h:Zcj n (Zaz l f) (Zce n)=some W):Pot (Zaz l f) (lgW W):=by
 have hg:=Ziq (f:=f) hb;obtain⟨_,h1,h2⟩:=Zsw hg (ZkY n).1 h;intro v s hs;have hv:=hg v s hs;have h3:=h2 v hv.1 (Zj9.2 hv.1);have:=h1 v hv.1 (by rw[Rch];omega) s hs;rw[lgW,lgW,show((s.1.toNat:Nat):Int)=s.1 by omega];exact this
theorem Zsv {n:Nat}{l:List Bd}{f:List Int}{p:Nat->Int}(hb:Zb3 n l)(hn:n<=2048)(hp:Pot (Zaz l f) p):
  ∃W,Zcj n (Zaz l f) (Zce n)=some W/\W.length=n/\∀v,v<n->Opt (Zaz l f) (ZkN n) v (lgW W v):=by
 obtain⟨a1,a2⟩:=ZkY n;obtain⟨W,h1,h2,h3,h4⟩:=Zuu hp (Ziq hb) hn a1 (by omega);refine⟨W,h1,h2.len,λ v hv=>(h4 v hv ?_).1⟩;have:=(h2.starts v (Zj9.2 hv)).2;rw[Rch];omega
theorem ZA4 {n:Nat}{l:List Bd}{f:List Int}(hb:Zb3 n l){v:Nat}{d:Int}(h:Opt (Zaz l f) (ZkN n) v d):0<=d/\d<=16777216*(n:Int):=by
 have hS:∀v:Nat,ZkN n v->v<n:=λ v hv=>Zj9.1 hv
 obtain⟨k,hk,hw⟩:=Zop (Ziq hb) hS h;have h1:=ZkK (Ziq hb) hw;have h2:=h.2 0 0 (.start v (Zj9.2 (Zjv (Ziq hb) hS hw)));omega
end partZ
section partZa
theorem ZeQ {g h:Nat->Int}:∀{n:Nat},(∀v,v<n->g v=h v)->ZaF g n=ZaF h n
 |0,_=>rfl
 |n+1,e=>by rw[Zdd,Zdd,e n (by omega),ZeQ λ v hv=>e v (by omega)]
theorem Zir (g h:Nat->Int):∀n,ZaF (λ v=>g v+h v) n=ZaF g n+ZaF h n
 |0=>rfl
 |n+1=>by rw[Zdd,Zdd,Zdd,Zir g h n];omega
theorem ZkF (g:Nat->Int):∀n,ZaF (λ v=>-(g v)) n=-(ZaF g n)
 |0=>rfl
 |n+1=>by rw[Zdd,Zdd,ZkF g n];omega
theorem ZgN :∀n,ZaF (λ _=>0) n=0
 |0=>rfl
 |n+1=>by rw[Zdd,ZgN n];rfl
theorem Zjo (i:Nat)(x:Int):∀n,ZaF (λ v=>if i=v then x else 0) n=if i<n then x else 0
 |0=>by simp[ZaF]
 |n+1=>by
  rw[Zdd,Zjo i x n];by_cases h:i=n
  ·rw[if_neg (by omega),if_pos h,if_pos (by omega)];omega
  ·rw[if_neg h];by_cases h2:i<n
   ·rw[if_pos h2,if_pos (by omega)];omega
   ·rw[if_neg h2,if_neg (by omega)];omega
theorem ZkE {g h:Nat->Int}:∀{n:Nat},(∀v,v<n->g v<=h v)->ZaF g n<=ZaF h n
 |0,_=>qX _
 |n+1,e=>by
  rw[Zdd,Zdd];have:=ZkE (n:=n) λ v hv=>e v (by omega)
  have:=e n (by omega);omega
theorem Zml {g h:Nat->Int}{i:Nat}:∀{n:Nat},(∀v,v<n->g v<=h v)->i<n->g i<h i->ZaF g n<ZaF h n
 |0,_,hi,_=>by omega
 |n+1,e,hi,hl=>by
  rw[Zdd,Zdd];rcases uE i n with h1|h1
  ·have:=Zml (n:=n) (λ v hv=>e v (by omega)) h1 hl;have:=e n (by omega);omega
  ·have:i=n:=by omega
   subst this;have:=ZkE (n:=i) λ v hv=>e v (by omega)
   omega
theorem Zu6 {g h:Nat->Int}{n i:Nat}{x:Int}(hi:i<n)(e:∀v,v<n->h v=g v+if i=v then x else 0):ZaF h n=ZaF g n+x:=by
 rw[ZeQ e,Zir,Zjo,if_pos hi]
abbrev ZcI (l:List Bd)(f:List Int)(v:Int):Int:=ZaF (Zc1 l f v) l.length
def ZhV (l:List Bd)(f:List Int)(R:Nat->Bool)(k:Nat):Int:=match l[k]? with|some b=>(if R b.2.1.toNat then at0 f k-b.2.2.2 else 0)-(if R b.1.toNat then at0 f k-b.2.2.2 else 0)|none=>0
theorem Zuz {n:Nat}{l:List Bd}{f:List Int}(hb:Zb3 n l)(hfl:f.length=l.length)(R:Nat->Bool):∀m,m<=l.length->
  ZaF (λ v=>if R v then ZaF (Zc1 l f v) m else 0) n=ZaF (ZhV l f R) m:=by
 intro m
 induction m with
 |zero=>intro _;simp only[ZaF];rw[ZeQ (h:=λ _=>0) (λ v _=>by split<;>rfl),ZgN]
 |succ m ih=>
  intro hm;obtain⟨b,hbm⟩:=Zac (show m<l.length by omega);obtain⟨x,hx⟩:=Zac (show m<f.length by omega);have hbb:=hb m b hbm;have hx0:at0 f m=x:=by rw[at0,uM,hx];rfl
  rw[Zdd,<-ih (by omega),ZhV,hbm];dsimp only;have e:∀v,v<n->(if R v then ZaF (Zc1 l f v) (m+1)else 0)=(if R v then ZaF (Zc1 l f v) m else 0)+((if b.2.1.toNat=v then(if R b.2.1.toNat then x-b.2.2.2 else 0)else 0)+-(if b.1.toNat=v then(if R b.1.toNat then x-b.2.2.2 else 0)else 0)):=by
   intro v hv;have ea:Zc1 l f v m=(if b.2.1=(v:Int)then x-b.2.2.2 else 0)-(if b.1=(v:Int)then x-b.2.2.2 else 0):=by simp[Zc1,hbm,hx]
   rw[Zdd,ea];by_cases c1:b.2.1.toNat=v
   ·have c2:¬b.1.toNat=v:=by omega
    rw[if_pos c1,if_neg c2,if_pos (show b.2.1=(v:Int) by omega),if_neg (show¬b.1=(v:Int) by omega),c1];split<;>omega
   ·rw[if_neg c1,if_neg (show¬b.2.1=(v:Int) by omega)];by_cases c2:b.1.toNat=v
    ·rw[if_pos c2,if_pos (show b.1=(v:Int) by omega),c2];split<;>omega
    ·rw[if_neg c2,if_neg (show¬b.1=(v:Int) by omega)];split<;>omega
  rw[ZeQ e,Zir,Zir,ZkF,Zjo,Zjo,if_pos (show b.2.1.toNat<n by omega),if_pos (show b.1.toNat<n by omega),hx0];omega
theorem Zx8 {l:List Bd}{f:List Int}{i:Nat}{b:Bd}{x v:Int}(hfl:f.length=l.length)(hb:l[i]? =some b):
  ZcI l (f.set i (at0 f i+x)) v=ZcI l f v+((if b.2.1=v then x else 0)-(if b.1=v then x else 0)):=by
 have hil:=(uB.1 hb).1;obtain⟨y,hy⟩:=Zac (show i<f.length by omega);have hy0:at0 f i=y:=by rw[at0,uM,hy];rfl
 refine Zu6 (i:=i) hil λ k hk=>?_
 obtain⟨c,hc⟩:=Zac hk;obtain⟨z,hz⟩:=Zac (show k<f.length by omega);by_cases h:i=k
 ·subst h;rw[hb]at hc;cases hc;have e1:(f.set i (at0 f i+x))[i]? =some (y+x):=by rw[gQ (by omega),hy0]
  simp only[Zc1,hb,hy,e1,if_true];split<;>split<;>omega
 ·have e1:(f.set i (at0 f i+x))[k]? =some z:=by rw[jJ h,hz]
  simp only[Zc1,hc,hz,e1];rw[if_neg h,jW]
theorem ZBB (W:List Way)(nd:List Int):∀k,(ZaS W nd k<0->∀u,u<k->¬(0<at0 nd u/\-576460752303423488<lgW W u))/\(0<=ZaS W nd k->0<at0 nd (ZaS W nd k)/\-576460752303423488<(wAt W (ZaS W nd k)).1):=by
 intro k
 induction k with
 |zero=>exact⟨λ _ u hu=>by omega,λ h=>by simp[ZaS]at h⟩
 |succ k ih=>
  rw[ZaS];split
  ·rename_i h;exact⟨λ h=>by omega,λ _=>⟨h.1,h.2.1⟩⟩
  ·rename_i h;refine⟨λ hn u hu hc=>?_,ih.2⟩;rcases uE u k with h1|h1
   ·exact ih.1 hn u h1 hc
   ·have:u=k:=by omega
    subst this;exact h ⟨hc.1,hc.2, .inl hn⟩
theorem Zkb {nd:List Int}{v:Nat}:∀{n:Nat},(v:Int)∈ZbZ nd n↔v<n/\at0 nd v<0:=by
 intro n;rw[ZbZ,ZsK];constructor
 ·rintro⟨k,hk,h⟩;rw[Zha]at h;split at h
  ·rename_i hn;have:=uS.1 h;have:v=k:=by omega
   subst this;exact⟨hk,hn⟩
  ·simp at h
 ·rintro⟨h1,h2⟩;exact⟨v,h1,by rw[Zha,if_pos h2];simp⟩
theorem ZyC {q:Nat->Bool}{k m:Nat}(hk:k<m)(h1:∀j,j<k->q j=false)(h2:q k=true):Zb8 q m=some k:=by
 refine Zrq hk ?_ h2;have:∀i,i<=k->Zb8 q i=none:=by
  intro i
  induction i with
  |zero=>intro _;rfl
  |succ i ih=>intro hi;exact Zrr (ih (by omega)) (h1 i (by omega))
 exact this k (uJ _)
theorem ZAs (W:List Way)(f:List Int)(m0 v:Int):∀k,Zdk W f m0 v k<=m0/\∀j,j<k->(ZaP W v j).2.2.2=true->Zdk W f m0 v k<=at0 f (ZaP W v j).2.2.1:=by
 intro k
 induction k with
 |zero=>exact⟨qX _,λ j hj=>by omega⟩
 |succ k ih=>
  rw[Zn9];refine⟨?_,λ j hj hb=>?_⟩
  ·split<;>omega
  ·rcases uE j k with h1|h1
   ·have:=ih.2 j h1 hb;split<;>omega
   ·have:j=k:=by omega
    subst this;rw[if_pos hb];omega
theorem ZAt {W:List Way}{f:List Int}{m0 v:Int}(h0:0<m0):∀k,(∀j,j<k->(ZaP W v j).2.2.2=true->0<at0 f (ZaP W v j).2.2.1)->0<Zdk W f m0 v k:=by
 intro k
 induction k with
 |zero=>intro _;exact h0
 |succ k ih=>
  intro h;rw[Zn9];have:=ih λ j hj=>h j (by omega)
  split
  ·rename_i hb;have:=h k (by omega) hb;omega
  ·exact this
section sent
variable {n K:Nat}{l:List Bd}{f:List Int}{W:List Way}{t m:Int}
structure ChainOk (n:Nat)(l:List Bd)(f:List Int)(W:List Way)(t:Int)(K:Nat):Prop where
 step:∀j,j<K->∃(k:Nat) (b:Bd),l[k]? =some b/\(ZaP W t j).2.2.1=k/\(((ZaP W t j).2.2.2=false/\b.1=Zat W t (j+1)/\b.2.1=Zat W t j)\/((ZaP W t j).2.2.2=true/\0<at0 f k/\b.2.1=Zat W t (j+1)/\b.1=Zat W t j))
 inj:∀i j,i<j->j<K->Zat W t i≠Zat W t j
variable (hc:ChainOk n l f W t K)(hfl:f.length=l.length)
include hc hfl
theorem Zuw {k:Nat}(hk:k<K)(b:Nat):at0 (ZbR W f m t (k+1)) b=at0 (ZbR W f m t k) b+(if(ZaP W t k).2.2.1=b then(if(ZaP W t k).2.2.2 then -m else m)else 0):=by
 obtain⟨i,bd,hi,he,_⟩:=hc.step k hk;have hil:=(uB.1 hi).1;rw[ZoZ,he,uM,ZhM _ _ _ _ (by omega)];by_cases h:i=b
 ·subst h;rw[if_pos ⟨rfl,by rw[Zin,hfl];exact hil⟩,if_pos rfl]
 ·rw[if_neg (by omega),if_neg (by omega),jW]
theorem ZDG (hm:0<=m):∀k,k<=K->∀b:Nat,((∀j,j<k->¬((ZaP W t j).2.2.2=true/\(ZaP W t j).2.2.1=b))->at0 f b<=at0 (ZbR W f m t k) b)/\at0 f b-m<=at0 (ZbR W f m t k) b:=by
 intro k
 induction k with
 |zero=>intro _ b;exact⟨λ _=>qX _,by show at0 f b-m<=at0 f b;omega⟩
 |succ k ih=>
  intro hk b;obtain⟨i1,i2⟩:=ih (by omega) b;rw[Zuw hc hfl (by omega)];refine⟨λ h=>?_,?_⟩
  ·have:=i1 λ j hj=>h j (by omega)
   split
   ·rename_i he;split
    ·rename_i hb;exact absurd ⟨hb,he⟩ (h k (by omega))
    ·omega
   ·omega
  ·split
   ·rename_i he;split
    ·rename_i hb;have:at0 f b<=at0 (ZbR W f m t k) b:=i1 λ j hj ⟨hbj,hej⟩=>by
      obtain⟨x,bx,hx,ex,hxx⟩:=hc.step j (by omega);obtain⟨y,by_,hy,ey,hyy⟩:=hc.step k (by omega);have:x=y:=by omega
      subst this;rw[hx]at hy;cases hy;rcases hxx with⟨h1,_⟩|⟨_,_,_,h1⟩
      ·rw[h1]at hbj;cases hbj
      ·rcases hyy with⟨h2,_⟩|⟨_,_,_,h2⟩
       ·rw[h2]at hb;cases hb
       ·exact hc.inj j k hj (by omega) (by rw[<-h1,<-h2])
     omega
    ·omega
   ·omega
theorem ZDH (hm:0<=m):∀k,k<=K->∀b:Nat,((∀j,j<k->¬((ZaP W t j).2.2.2=false/\(ZaP W t j).2.2.1=b))->at0 (ZbR W f m t k) b<=at0 f b)/\at0 (ZbR W f m t k) b<=at0 f b+m:=by
 intro k
 induction k with
 |zero=>intro _ b;exact⟨λ _=>qX _,by show at0 f b<=at0 f b+m;omega⟩
 |succ k ih=>
  intro hk b;obtain⟨i1,i2⟩:=ih (by omega) b;rw[Zuw hc hfl (by omega)];refine⟨λ h=>?_,?_⟩
  ·have:=i1 λ j hj=>h j (by omega)
   split
   ·rename_i he;split
    ·omega
    ·rename_i hb;exact absurd ⟨by simpa using hb,he⟩ (h k (by omega))
   ·omega
  ·split
   ·rename_i he;split
    ·omega
    ·rename_i hb;have hb:(ZaP W t k).2.2.2=false:=by simpa using hb
     have:at0 (ZbR W f m t k) b<=at0 f b:=i1 λ j hj ⟨hbj,hej⟩=>by
      obtain⟨x,bx,hx,ex,hxx⟩:=hc.step j (by omega);obtain⟨y,by_,hy,ey,hyy⟩:=hc.step k (by omega);have:x=y:=by omega
      subst this;rw[hx]at hy;cases hy;rcases hxx with⟨_,_,h1⟩|⟨h1,_⟩
      ·rcases hyy with⟨_,_,h2⟩|⟨h2,_⟩
       ·exact hc.inj j k hj (by omega) (by rw[<-h1,<-h2])
       ·rw[h2]at hb;cases hb
      ·rw[h1]at hbj;cases hbj
     omega
   ·omega
theorem ZDF (v:Int):∀k,k<=K->ZcI l (ZbR W f m t k) v=ZcI l f v+((if t=v then m else 0)-(if Zat W t k=v then m else 0)):=by
 intro k
 induction k with
 |zero=>intro _;show ZcI l f v=ZcI l f v+((if t=v then m else 0)-(if t=v then m else 0));omega
 |succ k ih=>
  intro hk;obtain⟨i,b,hi,he,h⟩:=hc.step k (by omega);rw[ZoZ,he,uM,Zx8 (by rw[Zin,hfl]) hi,ih (by omega)];rcases h with⟨h1,h2,h3⟩|⟨h1,_,h2,h3⟩
  ·rw[show(if(ZaP W t k).2.2.2=true then -m else m)=m by rw[h1];rfl,h2,h3];omega
  ·rw[show(if(ZaP W t k).2.2.2=true then -m else m)=-m by rw[h1];rfl,h2,h3];split<;>split<;>split<;>omega
end sent
end partZa
section partZb
instance rchDec (W:List Way)(v:Nat):Decidable (Rch W v):=inferInstanceAs (Decidable (lgW W v≠-1152921504606846976))
theorem ZtI (p:Nat->Int):∀m:Nat,∃lo:Int,∀v:Nat,v<m->lo<=p v:=by
 intro m
 induction m with
 |zero=>exact⟨0,λ v hv=>by omega⟩
 |succ m ih=>
  obtain⟨lo,h⟩:=ih;refine⟨min lo (p m),λ v hv=>?_⟩;rcases uE v m with h1|h1
  ·have:=h v h1;omega
  ·have:v=m:=by omega
   subst this;omega
theorem ZBV (p:Nat->Int):∀m:Nat,∃hi:Int,∀v:Nat,v<m->p v<=hi:=by
 intro m;obtain⟨lo,h⟩:=ZtI (λ v=>-(p v)) m;exact⟨-lo,λ v hv=>by have:=h v hv;omega⟩
def ZgE (nd:List Int)(n:Nat):Int:=ZaF (λ v=>max 0 (at0 nd v)) n
theorem Zl1 (nd:List Int)(n:Nat):0<=ZgE nd n:=by
 have:=ZkE (g:=λ _=>0) (h:=λ v:Nat=>max 0 (at0 nd v)) (n:=n) λ v _=>by omega
 rwa [ZgN]at this
structure Cert (n:Nat)(l:List Bd)(T:Int)(f nd:List Int):Prop where
 fl:f.length=l.length
 nl:nd.length=n
 pos:∀k:Nat,0<=at0 f k
 pot:∃p,Pot (Zaz l f) p
 dv:∀v:Nat,v<n->at0 nd v=-(ZcI l f v)
 low:∀v:Nat,v<n->-T<=at0 nd v/\at0 nd v<=T
 cap:∀k:Nat,at0 f k+ZgE nd n<=T
theorem ZrO {f:List Int}{T:Int}(hT:T<=1125899906842624)(h:∀k:Nat,k<f.length->-T<=at0 f k/\at0 f k<=T):inB f=true:=by
 simp only[inB,uX,uF];intro x hx;obtain⟨k,hk⟩:=yU hx;have hkl:=(uB.1 hk).1;have:=h k hkl;have e:at0 f k=x:=by rw[at0,uM,hk];rfl
 omega
theorem Zxq {n:Nat}{l:List Bd}{T:Int}{f nd:List Int}(hb:Zb3 n l)(hn:n<=2048)(hT:T<=1125899906842624)(h:Cert n l T f nd)(hneg:∃s:Nat,s<n/\at0 nd s<0):
  ∃f' nd',Zlj n l f nd=some (f',nd')/\Cert n l T f' nd'/\ZgE nd' n<ZgE nd n:=by
 obtain⟨p,hp⟩:=h.pot;have hg:=Ziq (f:=f) hb;obtain⟨n1,n2⟩:=Zkf nd n;obtain⟨W,hW,hI,hO1,hO2⟩:=Zuu hp hg hn n1 n2;have hS:∀v:Nat,(v:Int)∈ZbZ nd n->v<n:=λ v hv=>(Zkb.1 hv).1
 obtain⟨lo,hlo⟩:=ZtI p n;have hlo':∀v:Nat,(v:Int)∈ZbZ nd n->lo<=p v:=λ v hv=>hlo v (hS v hv)
 have hlow:∀v:Nat,v<n->Rch W v->-34359738368<=lgW W v:=by
  intro v hv hr;obtain⟨k,hk,hw⟩:=Zop hg hS (hO2 v hv hr).1;have:=ZkK hg hw;omega
 have hrs:∀v:Nat,v<n->Rch W v->∀s∈Zaz l f v,Rch W s.1.toNat:=by
  intro v hv hr s hs;obtain⟨⟨j,hw⟩,_⟩:=(hO2 v hv hr).1;obtain⟨d,hd⟩:=Zs8 hp hlo' (Wk.step j v _ s hw hs);exact(hO1 _ _ hd).1
 have hstart:∀v:Nat,v<n->at0 nd v<0->Rch W v:=by
  intro v hv hx;have:=(hI.starts v (Zkb.2 ⟨hv,hx⟩)).2;rw[Rch];omega
 have hout:∀(k:Nat) b,l[k]? =some b->Rch W b.1.toNat->Rch W b.2.1.toNat/\lgW W b.1.toNat+b.2.2.1<=lgW W b.2.1.toNat:=by
  intro k b hk hr;have hbb:=hb k b hk;have hm:((b.2.1,b.2.2.1,(k:Int),false):Stp)∈Zaz l f b.1.toNat:=Zgy.2 ⟨k,b,hk, .inl ⟨by omega,rfl⟩⟩;have h1:=hrs b.1.toNat (by omega) hr _ hm;have h2:=(hO2 b.1.toNat (by omega) hr).2 _ hm;dsimp only at h1 h2;refine⟨h1,?_⟩;rw[lgW,lgW,show((b.2.1.toNat:Nat):Int)=b.2.1 by omega];exact h2
 have hinn:∀(k:Nat) b,l[k]? =some b->0<at0 f k->Rch W b.2.1.toNat->Rch W b.1.toNat/\lgW W b.2.1.toNat<=lgW W b.1.toNat+b.2.2.1:=by
  intro k b hk hf hr;have hbb:=hb k b hk;have hm:((b.1,-b.2.2.1,(k:Int),true):Stp)∈Zaz l f b.2.1.toNat:=Zgy.2 ⟨k,b,hk, .inr ⟨hf,by omega,rfl⟩⟩;have h1:=hrs b.2.1.toNat (by omega) hr _ hm;have h2:=(hO2 b.2.1.toNat (by omega) hr).2 _ hm;dsimp only at h1 h2;refine⟨h1,?_⟩;rw[lgW,show lgW W b.1.toNat=(wAt W b.1).1 by rw[lgW,show((b.1.toNat:Nat):Int)=b.1 by omega]];rw[lgW]at h2;omega
 have hneed:∃u:Nat,u<n/\Rch W u/\0<at0 nd u:=by
  refine gI λ hno=>?_
  have hle:∀v:Nat,v<n->Rch W v->at0 nd v<=0:=λ v hv hr=>by
   rcases Be 0 (at0 nd v)with h1|h1
   ·exact absurd ⟨v,hv,hr,h1⟩ hno
   ·exact h1
  obtain⟨s,hs,hs0⟩:=hneg;have hA:=Zuz hb h.fl (λ v=>decide (Rch W v)) l.length (uJ _);have h1:ZaF (ZhV l f (λ v=>decide (Rch W v))) l.length<=0:=by
   have:=ZkE (g:=ZhV l f (λ v=>decide (Rch W v))) (h:=λ _=>0) (n:=l.length) λ k hk=>by
    obtain⟨b,hbk⟩:=Zac hk;have hbb:=hb k b hbk;simp only[ZhV,hbk,uF];have:=h.pos k;by_cases c1:Rch W b.1.toNat
    ·rw[if_pos c1,if_pos (hout k b hbk c1).1];omega
    ·rw[if_neg c1];by_cases c2:Rch W b.2.1.toNat
     ·rw[if_pos c2];have:¬0<at0 f k:=λ hf=>c1 (hinn k b hbk hf c2).1
      omega
     ·rw[if_neg c2];omega
   rwa [ZgN]at this
  have h2:0<ZaF (λ v=>if decide (Rch W v)=true then ZaF (Zc1 l f v) l.length else 0) n:=by
   have:=Zml (g:=λ _=>0) (h:=λ v:Nat=>if decide (Rch W v)=true then ZaF (Zc1 l f v) l.length else 0) (i:=s) (n:=n) (λ v hv=>by
    simp only[uF];split
    ·rename_i hr;have:=h.dv v hv;have:=hle v hv hr;simp only[ZcI]at*;omega
    ·exact qX _) hs (by
    have hr:=hstart s hs hs0;have:=h.dv s hs;rw[if_pos (yD hr)];simp only[ZcI]at this;omega)
   rwa [ZgN]at this
  omega
 obtain⟨u,hu,hur,hu0⟩:=hneed;have hpk:=ZlU W nd n;obtain⟨pk1,pk2⟩:=ZBB W nd n;have ht0:0<=ZaS W nd n:=by
  rcases Be (ZaS W nd n) 0 with h1|h1
  ·exact absurd ⟨hu0,by have:=hlow u hu hur;omega⟩ (pk1 h1 u hu)
  ·exact h1
 obtain⟨hnt,hlt⟩:=pk2 ht0;obtain⟨t,htt⟩:∃t:Nat,ZaS W nd n=t:=⟨(ZaS W nd n).toNat,by omega⟩;rw[htt]at hnt hlt;have htn:t<n:=by omega
 have htr:Rch W t:=by rw[Rch,lgW];omega
 obtain⟨K,hK⟩:=hI.chain t htn htr;have hcp:=Znb hp hI htn htr hK.2;have hinj:=ZEJ hK;have hKn:K+1<=n:=ZrR (g:=λ i=>(Zat W t i).toNat) (λ i hi=>by
  obtain⟨x,hx,hxn,_⟩:=hcp i (by omega);show(Zat W t i).toNat<n;rw[hx];omega) (λ i j hij hj he=>by
  obtain⟨x,hx,_⟩:=hcp i (by omega);obtain⟨y,hy,_⟩:=hcp j (by omega);refine hinj i j hij (by omega) ?_;have he:(Zat W t i).toNat=(Zat W t j).toNat:=he;rw[hx,hy]at he|-;omega)
 have hstop:Zo8 W t (n+1)=some K:=ZyC (by omega) hK.2 hK.1
 have hlink:∀j,j<K->∃x v:Nat,Zat W t j=v/\Zat W t (j+1)=x/\x<n/\v<n/\Rch W x/\Rch W v/\ZaP W t j∈Zaz l f x/\(ZaP W t j).1=v/\lgW W v<=lgW W x+(ZaP W t j).2.1:=by
  intro j hj;obtain⟨v,hv,hvn,hvr,_⟩:=hcp j (by omega);have hbg:=hK.2 j hj;rw[hv]at hbg;rcases hI.par v hvn hvr with⟨h1,_⟩|⟨x,hx,hxr,h1,h2,h3,_,h5⟩
  ·rw[bgW,h1]at hbg;cases hbg
  ·exact⟨x,v,hv,by rw[Zfp,hv];exact h1,hx,hvn,hxr,hvr,by rw[ZaP,hv];exact h2,by rw[ZaP,hv];exact h3,by rw[ZaP,hv];exact h5⟩
 have hco:ChainOk n l f W t K:=by
  refine⟨λ j hj=>?_,λ i j hij hj=>hinj i j hij (by omega)⟩;obtain⟨x,v,hv,hx,hxn,hvn,hxr,hvr,h1,h2,h3⟩:=hlink j hj;obtain⟨k,b,hk,h4⟩:=Zgy.1 h1;refine⟨k,b,hk,?_⟩;rcases h4 with⟨h4,h5⟩|⟨h4,h5,h6⟩
  ·rw[h5]at h2|-;exact⟨rfl, .inl ⟨rfl,by rw[hx];exact h4,by rw[hv];exact h2⟩⟩
  ·rw[h6]at h2|-;exact⟨rfl, .inr ⟨rfl,h4,by rw[hx];exact h5,by rw[hv];exact h2⟩⟩
 obtain⟨s,hs,hsn,hsr,_⟩:=hcp K (uJ _);have hsneg:at0 nd s<0:=by
  have hbg:=hK.1;rw[hs]at hbg;rcases hI.par s hsn hsr with⟨_,h2⟩|⟨_,_,_,_,_,_,h4,_⟩
  ·exact(Zkb.1 h2).2
  ·rw[hbg]at h4;cases h4
 have hst:s≠t:=λ he=>by rw[he]at hsneg;omega
 have hml:=ZAs W f (at0 nd t) t K;have hmp:0<Zdk W f (at0 nd t) t K:=ZAt hnt K λ j hj hbk=>by
  obtain⟨k,b,_,he,hh⟩:=hco.step j hj;rcases hh with⟨h1,_⟩|⟨_,h1,_⟩
  ·rw[h1]at hbk;cases hbk
  ·rw[he];exact h1
 have hsm:=ZoY W f nd t K;rw[hs]at hsm;generalize hmdef:Zfh W f nd t K=m at hsm;have hm0:0<m:=by omega
 have hmt:m<=at0 nd t:=by omega
 have hms:m<=-(at0 nd s):=by omega
 have hmb:∀j,j<K->(ZaP W t j).2.2.2=true->m<=at0 f (ZaP W t j).2.2.1:=λ j hj hbk=>by have:=hml.2 j hj hbk;omega
 have hsl:=ZDG hco h.fl (Dh hm0) K (uJ _);have hsu:=ZDH hco h.fl (Dh hm0) K (uJ _);have hsd:=λ v:Int=>ZDF (m:=m) hco h.fl v K (uJ _)
 have hps:=Zl1 nd n;have hfin:∀k:Nat,k<f.length->-T<=at0 f k/\at0 f k<=T:=λ k _=>by have:=h.pos k;have:=h.cap k;omega
 have hl0:0<l.length:=by
  rcases qM l.length with h0|h0
  ·have:=h.dv t htn;simp only[ZcI,h0,ZaF]at this;omega
  ·exact h0
 have hwo:Zit n l.length W=true:=by
  simp only[Zit,uL,uF,uX];refine⟨hI.len,λ w hw=>?_⟩;obtain⟨i,hi⟩:=yU hw;have hin:i<n:=by have:=(uB.1 hi).1;rw[hI.len]at this;exact this
  have hwi:wAt W (i:Int)=w:=by rw[wAt,uM,hi];rfl
  rcases hI.sound i hin with h1|⟨h1,_⟩
  ·rw[<-hwi,h1];simp[Zep];omega
  ·rcases hI.par i hin h1 with⟨h2,_⟩|⟨x,hx,_,h2,h3,_⟩
   ·rw[<-hwi,h2];simp[ZdH];omega
   ·rw[hwi]at h2 h3;obtain⟨k,b,hk,h4⟩:=Zgy.1 h3;have hkl:=(uB.1 hk).1;rcases h4 with⟨_,h5⟩|⟨_,_,h5⟩<;>(rw[h5,h2];dsimp only;omega)
 have hcond:(decide (0<=ZaS W nd n)&&Zit n l.length W&&inB f&&inB nd)=true:=by
  rw[hwo,ZrO hT hfin,ZrO hT (λ k hk=>h.low k (by rw[<-h.nl];exact hk)),yD ht0];rfl
 have hat:∀v:Nat,v<n->at0 ((nd.set s (at0 nd s+m)).set t (at0 (nd.set s (at0 nd s+m)) t-m)) v=at0 nd v+((if s=v then m else 0)-(if t=v then m else 0)):=by
  intro v hv;have e1:∀v:Nat,at0 (nd.set s (at0 nd s+m)) v=if v=s then at0 nd s+m else at0 nd v:=λ v=>by
   rw[ZhM _ _ _ _ (by omega)];by_cases h1:v=s
   ·rw[if_pos ⟨by omega,by rw[h.nl];exact hsn⟩,if_pos h1]
   ·rw[if_neg (by omega),if_neg h1]
  rw[ZhM _ _ _ _ (by omega),e1 t,if_neg (show¬t=s from λ he=>hst he.symm)];by_cases h1:v=t
  ·subst h1;rw[if_pos ⟨rfl,by rw[yP,h.nl];exact hv⟩,if_neg hst,if_pos rfl];omega
  ·rw[if_neg (by omega),e1 v,if_neg (show¬t=v from λ he=>h1 he.symm)];by_cases h2:v=s
   ·subst h2;rw[if_pos rfl,if_pos rfl];omega
   ·rw[if_neg h2,if_neg (λ he=>h2 he.symm)];omega
 have hps':ZgE ((nd.set s (at0 nd s+m)).set t (at0 (nd.set s (at0 nd s+m)) t-m)) n=ZgE nd n+-m:=by
  refine Zu6 (i:=t) htn λ v hv=>?_
  rw[hat v hv];by_cases h1:t=v
  ·subst h1;rw[if_pos rfl,if_neg hst,if_pos rfl];omega
  ·rw[if_neg h1,if_neg h1];by_cases h2:s=v
   ·subst h2;rw[if_pos rfl];omega
   ·rw[if_neg h2];omega
 refine⟨ZbR W f m t K,(nd.set s (at0 nd s+m)).set t (at0 (nd.set s (at0 nd s+m)) t-m),?_,?_,by omega⟩
 ·rw[Zlj,hW];dsimp only;rw[htt]at hcond;rw[htt,hstop];dsimp only;rw[if_pos hcond,hmdef,hs,uM,uM]
 ·obtain⟨hi,hhi⟩:=ZBV p n;refine⟨by rw[Zin,h.fl],by rw[yP,yP,h.nl],λ k=>?_,?_,λ v hv=>?_,λ v hv=>?_,λ k=>?_⟩
  ·obtain⟨a1,a2⟩:=hsl k;have:=h.pos k;by_cases hex:∃j,j<K/\(ZaP W t j).2.2.2=true/\(ZaP W t j).2.2.1=k
   ·obtain⟨j,hj,h1,h2⟩:=hex;have:=hmb j hj h1;rw[h2]at this;omega
   ·have:=a1 λ j hj hh=>hex ⟨j,hj,hh.1,hh.2⟩
    omega
  ·
   refine⟨λ v=>if Rch W v then lgW W v else p v-(hi+34359738368+16777216),(Zje hb).2 λ k b hk=>?_⟩;have hbb:=hb k b hk;have hpb:=(Zje hb).1 hp k b hk;have hh1:=hhi b.1.toNat (by omega)
   try dsimp only
   by_cases c1:Rch W b.1.toNat
   ·obtain⟨c2,c3⟩:=hout k b hk c1;rw[if_pos c1,if_pos c2];refine⟨c3,λ hf=>?_⟩;by_cases c4:0<at0 f k
    ·exact(hinn k b hk c4 c2).2
    ·have hex:∃j,j<K/\(ZaP W t j).2.2.2=false/\(ZaP W t j).2.2.1=k:=gI λ hno=>by
      have:=(hsu k).1 λ j hj hh=>hno ⟨j,hj,hh.1,hh.2⟩
      omega
     obtain⟨j,hj,h1,h2⟩:=hex;obtain⟨x,v,hv,hx,_,_,_,_,_,_,h3⟩:=hlink j hj;obtain⟨k',b',hk',he,hcase⟩:=hco.step j hj;have:k'=k:=by omega
     subst this;rw[hk]at hk';cases hk';rcases hcase with⟨_,h4,h5⟩|⟨h4,_⟩
     ·have hlen:(ZaP W t j).2.1=b.2.2.1:=by
       obtain⟨x',v',hv',hx',_,_,_,_,h6,_⟩:=hlink j hj;obtain⟨k2,b2,hk2,h7⟩:=Zgy.1 h6;rcases h7 with⟨_,h8⟩|⟨_,_,h8⟩
       ·rw[h8]at he|-;have:k2=k':=by dsimp only at he;omega
        subst this;rw[hk]at hk2;cases hk2;rfl
       ·rw[h8]at h1;cases h1
      rw[hlen]at h3;rw[show b.1.toNat=x by rw[h4,hx];omega,show b.2.1.toNat=v by rw[h5,hv];omega];exact h3
     ·rw[h1]at h4;cases h4
   ·rw[if_neg c1];have hnof:Rch W b.2.1.toNat->¬0<at0 (ZbR W f m t K) k:=by
     intro c2 hf;have c4:¬0<at0 f k:=λ h0=>c1 (hinn k b hk h0 c2).1
     have hex:∃j,j<K/\(ZaP W t j).2.2.2=false/\(ZaP W t j).2.2.1=k:=gI λ hno=>by
      have:=(hsu k).1 λ j hj hh=>hno ⟨j,hj,hh.1,hh.2⟩
      omega
     obtain⟨j,hj,h1,h2⟩:=hex;obtain⟨x,v,hv,hx,_,_,hxr,_⟩:=hlink j hj;obtain⟨k',b',hk',he,hcase⟩:=hco.step j hj;have:k'=k:=by omega
     subst this;rw[hk]at hk';cases hk';rcases hcase with⟨_,h4,_⟩|⟨h4,_⟩
     ·exact c1 (by rw[show b.1.toNat=x by rw[h4,hx];omega];exact hxr)
     ·rw[h1]at h4;cases h4
    by_cases c2:Rch W b.2.1.toNat
    ·rw[if_pos c2];have:=hlow b.2.1.toNat (by omega) c2;exact⟨by omega,λ hf=>absurd hf (hnof c2)⟩
    ·rw[if_neg c2];refine⟨by omega,λ hf=>?_⟩;by_cases c4:0<at0 f k
     ·have:=hpb.2 c4;omega
     ·exfalso;have hex:∃j,j<K/\(ZaP W t j).2.2.2=false/\(ZaP W t j).2.2.1=k:=gI λ hno=>by
       have:=(hsu k).1 λ j hj hh=>hno ⟨j,hj,hh.1,hh.2⟩
       omega
      obtain⟨j,hj,h1,h2⟩:=hex;obtain⟨x,v,hv,hx,_,_,hxr,_⟩:=hlink j hj;obtain⟨k',b',hk',he,hcase⟩:=hco.step j hj;have:k'=k:=by omega
      subst this;rw[hk]at hk';cases hk';rcases hcase with⟨_,h4,_⟩|⟨h4,_⟩
      ·exact c1 (by rw[show b.1.toNat=x by rw[h4,hx];omega];exact hxr)
      ·rw[h1]at h4;cases h4
  ·rw[hat v hv,hsd v,h.dv v hv,hs];by_cases c1:s=v<;>by_cases c2:t=v
   ·rw[if_pos c1,if_pos c2,if_pos (by omega),if_pos (by omega)];omega
   ·rw[if_pos c1,if_neg c2,if_neg (by omega),if_pos (by omega)];omega
   ·rw[if_neg c1,if_pos c2,if_pos (by omega),if_neg (by omega)];omega
   ·rw[if_neg c1,if_neg c2,if_neg (by omega),if_neg (by omega)];omega
  ·rw[hat v hv];have:=h.low v hv;by_cases c1:s=v<;>by_cases c2:t=v
   ·exact absurd (c1.trans c2.symm) hst
   ·subst c1;rw[if_pos rfl,if_neg c2];omega
   ·subst c2;rw[if_neg c1,if_pos rfl];omega
   ·rw[if_neg c1,if_neg c2];omega
  ·have:=(hsu k).2;have:=h.cap k;omega
theorem Zxp {n:Nat}{l:List Bd}{T:Int}(hb:Zb3 n l)(hn:n<=2048)(hT:T<=1125899906842624):∀(R:Nat) (f nd:List Int),Cert n l T f nd->ZgE nd n<R->
  ∃f1 nd1,Zgl n l R f nd=some f1/\Cert n l T f1 nd1/\∀v:Nat,v<n->0<=at0 nd1 v:=by
 intro R
 induction R with
 |zero=>intro f nd h hR;have:=Zl1 nd n;omega
 |succ R ih=>
  intro f nd h hR;rw[Zgl];rcases hem:(ZbZ nd n).isEmpty with _|_
  ·have hex:∃s:Nat,s<n/\at0 nd s<0:=by
    cases hl:ZbZ nd n with
    |nil=>rw[hl]at hem;cases hem
    |cons x r=>
     have hx:x∈ZbZ nd n:=by rw[hl];simp
     have hxb:=(Zkf nd n).1 x hx;have:=Zkb.1 (show((x.toNat:Nat):Int)∈ZbZ nd n by rw[show((x.toNat:Nat):Int)=x by omega];exact hx);exact⟨_,this.1,this.2⟩
   obtain⟨f',nd',h1,h2,h3⟩:=Zxq hb hn hT h hex;rw[if_neg (by decide),h1]
   try dsimp only
   exact ih f' nd' h2 (by omega)
  ·rw[if_pos rfl];refine⟨f,nd,rfl,h,λ v hv=>?_⟩;rcases Be (at0 nd v) 0 with h1|h1
   ·have:=(Zkb (n:=n)).2 ⟨hv,h1⟩;rw[Ah.1 hem]at this;simp at this
   ·exact h1
end partZb
theorem ZiE (l:List Bd)(k:Nat):at0 (zeros l) k=0:=by
 simp only[at0,zeros,gH];split<;>rfl
theorem ZAy {l:List Bd}(v:Int):ZaF (Zed l v) l.length=-(ZcI l (zeros l) v):=by
 rw[ZcI,<-ZkF];refine ZeQ λ k hk=>?_
 obtain⟨b,hb⟩:=Zac hk;have hz:(zeros l)[k]? =some 0:=by simp[zeros,hk]
 simp only[Zed,Zc1,hb,hz];split<;>split<;>omega
theorem potB_zeros {l:List Bd}{f:List Int}{p:Nat->Int}(h:PotB l f p):PotB l (zeros l) p:=λ k b hk=>
 ⟨(h k b hk).1,λ hf=>by rw[ZiE]at hf;omega⟩
theorem potB_nil {l:List Bd}{p:Nat->Int}:PotB l [] p↔PotB l (zeros l) p:=
 ⟨potB_zeros,λ h k b hk=>⟨(h k b hk).1,λ hf=>by simp[at0]at hf⟩⟩
theorem ZwF {W:List Way}{n v:Nat}(hl:W.length=n)(hv:v<n):at0 (Zf3 W) v=lgW W v:=by
 have:=Zeo (v:=(v:Int)) hl (by omega) (by omega);rw[uM]at this;rw[at0,Zf3,uM,uI,this];rfl
structure Best (n:Nat)(l:List Bd)(r f:List Int):Prop where
 fl:f.length=l.length
 rl:r.length=n
 pos:∀k:Nat,0<=at0 f k/\at0 f k<=1099511627776
 dv:∀v:Nat,v<n->ZcI l f v=0
 opt:∀v:Nat,v<n->Opt (Zaz l f) (ZkN n) v (at0 r v)
theorem solve_best {n:Nat}{l:List Bd}(hg:nOk ((n:Int),l)=true)(hp:∃p,PotB l (zeros l) p):∃r f,SolveOk ((n:Int),l) r f/\Best n l r f:=by
 obtain⟨hb,hn,hl⟩:=Zfq hg;obtain⟨p,hp⟩:=hp;have hp0:=(Zje (f:=zeros l) hb).2 hp;obtain⟨W0,hW0,_,_⟩:=Zsv hb hn hp0;have hnd:∀v:Nat,v<n->at0 (ZbP l n l.length) v=ZaF (Zed l v) l.length:=λ v hv=>by
  rw[at0,uM,Zke hv];rfl
 have hbd:∀v:Nat,v<n->-32768000<=at0 (ZbP l n l.length) v/\at0 (ZbP l n l.length) v<=32768000:=λ v hv=>by
  have:=Zob (l:=l) (v:=(v:Int)) (m:=l.length) (uJ _) (λ k b hk=>by have:=hb k b hk;omega);rw[hnd v hv];omega
 have hps:ZgE (ZbP l n l.length) n<=32768000*(n:Int):=by
  have:=(Zu5 (f:=λ v:Nat=>max 0 (at0 (ZbP l n l.length) v)) (c:=32768000) (m:=n) (λ v hv=>by have:=hbd v hv;omega) n (uJ _)).2;exact this
 have hcert:Cert n l 67108864000 (zeros l) (ZbP l n l.length):=
  ⟨by simp[zeros],Zi7 _ _ _,λ k=>by rw[ZiE];exact qX _,⟨p,hp0⟩,λ v hv=>by rw[hnd v hv,ZAy],λ v hv=>by have:=hbd v hv;omega,λ k=>by rw[ZiE];omega⟩
 obtain⟨f,nd,hc,hC,hnn⟩:=Zxp hb hn (by decide) ((ZgE (ZbP l n l.length) n).toNat+1) (zeros l) (ZbP l n l.length) hcert (by have:=Zl1 (ZbP l n l.length) n;omega);obtain⟨q,hq⟩:=hC.pot;obtain⟨W,hW,hWl,hopt⟩:=Zsv hb hn hq;refine⟨Zf3 W,f,?_,hC.fl,by simp[Zf3,hWl],λ k=>?_,λ v hv=>?_,λ v hv=>by rw[ZwF hWl hv];exact hopt v hv⟩
 ·exact⟨n,rfl,by simp[Zf3,hWl],hC.fl,ZjA n l f _ W0 W hg hW0 hc hC.fl hW hWl⟩
 ·have:=hC.pos k;have:=hC.cap k;have:=Zl1 nd n;omega
 ·
  have hA:=Zuz hb hC.fl (λ _=>true) l.length (uJ _);have hz:ZaF (ZhV l f (λ _=>true)) l.length=0:=by
   rw[ZeQ (h:=λ _=>0) λ k hk=>by
    obtain⟨b,hbk⟩:=Zac hk;simp only[ZhV,hbk,if_true];omega,ZgN]
  simp only[if_true]at hA;rw[hz]at hA;have hle:∀v:Nat,v<n->ZcI l f v<=0:=λ v hv=>by have:=hC.dv v hv;have:=hnn v hv;omega
  rcases Be (ZcI l f v) 0 with h1|h1
  ·have:=Zml (g:=λ v:Nat=>ZaF (Zc1 l f v) l.length) (h:=λ _=>0) (n:=n) (i:=v) hle hv h1;rw[ZgN]at this;omega
  ·have:=hle v hv;omega
theorem solve_none {n:Nat}{l:List Bd}(hg:nOk ((n:Int),l)=true)(hp:¬∃p,PotB l (zeros l) p):SolveNo ((n:Int),l) 9:=by
 obtain⟨hb,hn,hl⟩:=Zfq hg;refine Zv7 n l hg ?_;cases h:Zcj n (Zaz l (zeros l)) (Zce n)with
 |none=>rfl
 |some W=>exact absurd ⟨_,(Zje hb).1 (ZBY hb h)⟩ hp
section best
variable {n:Nat}{l:List Bd}{r f:List Int}
theorem ZhR (hb:Zb3 n l)(h:Best n l r f):PotB l f (λ v=>at0 r v):=by
 refine(Zje hb).1 λ v s hs=>?_
 have hv:=Ziq hb v s hs;obtain⟨⟨j,hw⟩,_⟩:=h.opt v hv.1;exact(h.opt s.1.toNat (by omega)).2 _ _ (.step j v _ s hw hs)
theorem ZhQ (hb:Zb3 n l)(h:Best n l r f)(v:Nat):0<=at0 r v/\at0 r v<=16777216*(n:Int):=by
 rcases uE v n with hv|hv
 ·exact ZA4 hb (h.opt v hv)
 ·have:at0 r v=0:=by rw[at0,uM,uN (by rw[h.rl];exact hv)];rfl
  rw[this];omega
theorem Zl2 (hb:Zb3 n l){f:List Int}(h:PotB l f (λ v=>at0 r v)){k:Nat}{b:Bd}(hk:l[k]? =some b):b.2.2.1<=gap r b/\(0<at0 f k->gap r b<=b.2.2.1):=by
 have hbb:=hb k b hk;obtain⟨h1,h2⟩:=h k b hk;dsimp only at h1 h2;rw[show((b.1.toNat:Nat):Int)=b.1 by omega,show((b.2.1.toNat:Nat):Int)=b.2.1 by omega]at h1 h2;rw[gap];exact⟨by omega,λ hf=>by have:=h2 hf;omega⟩
theorem ZCP (hg:nOk ((n:Int),l)=true)(hl:r.length=n)(hr:∀v:Nat,v<n->-34359738368<=at0 r v/\at0 r v<=34359738368):rkOk ((n:Int),l) r=true:=by
 simp only[rkOk,uL,uF,yC,yS];refine⟨⟨hg,by omega⟩,λ x hx=>?_⟩;obtain⟨k,hk⟩:=yU hx;have hkl:=(uB.1 hk).1;have:=hr k (by omega);have e:at0 r k=x:=by rw[at0,uM,hk];rfl
 have e2:Zim x=true:=by simp only[Zim,uF];omega
 rw[e2];decide
theorem Zrj (hg:nOk ((n:Int),l)=true)(hl:r.length=n)(hr:∀v:Nat,v<n->-34359738368<=at0 r v/\at0 r v<=34359738368)(hp:PotB l (zeros l) (λ v=>at0 r v)):Zd7 ((n:Int),l) r=true:=by
 obtain⟨hb,hn,hll⟩:=Zfq hg;simp only[Zd7,uL,yC,yS,uF];refine⟨ZCP hg hl hr,λ b hbm=>?_⟩;obtain⟨k,hk⟩:=yU hbm;have:=(Zl2 hb hp hk).1;omega
theorem Zrk (h:Zd7 ((n:Int),l) r=true):nOk ((n:Int),l)=true/\r.length=n/\PotB l (zeros l) (λ v=>at0 r v):=by
 have hr:rkOk ((n:Int),l) r=true:=by simp only[Zd7,uL]at h;exact h.1
 obtain⟨hg,hlen,_⟩:=rkOk_in hr;obtain⟨hb,hn,hll⟩:=Zfq hg;simp only[Zd7,uL,yC,yS,uF]at h;refine⟨hg,by dsimp only at hlen;omega,λ k b hk=>⟨?_,λ hf=>by rw[ZiE]at hf;omega⟩⟩;have hbb:=hb k b hk;have:=h.2 b (uA hk);rw[gap]at this;dsimp only;rw[show((b.1.toNat:Nat):Int)=b.1 by omega,show((b.2.1.toNat:Nat):Int)=b.2.1 by omega];omega
theorem best_feas (hg:nOk ((n:Int),l)=true)(h:Best n l r f):Zd7 ((n:Int),l) r=true:=by
 obtain⟨hb,hn,hll⟩:=Zfq hg;exact Zrj hg h.rl (λ v hv=>by have:=ZhQ hb h v;omega) (potB_zeros (ZhR hb h))
def ZcR (l:List Bd)(r:List Int):Int:=ZaF (ZdN r l) l.length
theorem cost_is (h:rkOk ((n:Int),l) r=true):ZgY ((n:Int),l) r=ZcR l r:=by rw[ZgY,if_pos h];rfl
theorem ZxQ (hb:Zb3 n l)(hfl:f.length=l.length)(hdv:∀v:Nat,v<n->ZcI l f v=0)(x:Nat->Int):
  ZaF (λ k=>match l[k]? with|some b=>(at0 f k-b.2.2.2)*(x b.2.1.toNat-x b.1.toNat)|none=>0) l.length=0:=by
 have key:∀m,m<=l.length->ZaF (λ v=>x v*ZaF (Zc1 l f v) m) n=ZaF (λ k=>match l[k]? with|some b=>(at0 f k-b.2.2.2)*(x b.2.1.toNat-x b.1.toNat)|none=>0) m:=by
  intro m
  induction m with
  |zero=>intro _;simp only[ZaF];rw[ZeQ (h:=λ _=>0) (λ v _=>By _),ZgN]
  |succ m ih=>
   intro hm;obtain⟨b,hbm⟩:=Zac (show m<l.length by omega);obtain⟨y,hy⟩:=Zac (show m<f.length by omega);have hbb:=hb m b hbm;have hy0:at0 f m=y:=by rw[at0,uM,hy];rfl
   rw[Zdd,<-ih (by omega),hbm];dsimp only;have e:∀v,v<n->x v*ZaF (Zc1 l f v) (m+1)=x v*ZaF (Zc1 l f v) m+((if b.2.1.toNat=v then x b.2.1.toNat*(y-b.2.2.2)else 0)+-(if b.1.toNat=v then x b.1.toNat*(y-b.2.2.2)else 0)):=by
    intro v hv;have ea:Zc1 l f v m=(if b.2.1=(v:Int)then y-b.2.2.2 else 0)-(if b.1=(v:Int)then y-b.2.2.2 else 0):=by simp[Zc1,hbm,hy]
    rw[Zdd,ea,zW]
    congr 1
    by_cases c1:b.2.1.toNat=v
    ·have c2:¬b.1.toNat=v:=by omega
     rw[if_pos c1,if_neg c2,if_pos (show b.2.1=(v:Int) by omega),if_neg (show¬b.1=(v:Int) by omega),c1];simp
    ·rw[if_neg c1,if_neg (show¬b.2.1=(v:Int) by omega)];by_cases c2:b.1.toNat=v
     ·rw[if_pos c2,if_pos (show b.1=(v:Int) by omega),c2,Int.zero_sub,Int.mul_neg];omega
     ·rw[if_neg c2,if_neg (show¬b.1=(v:Int) by omega)];simp
   rw[ZeQ e,Zir,Zir,ZkF,Zjo,Zjo,if_pos (show b.2.1.toNat<n by omega),if_pos (show b.1.toNat<n by omega),hy0,Df (y-b.2.2.2),Int.sub_mul];omega
 rw[<-key l.length (uJ _),ZeQ (h:=λ _=>0) (λ v hv=>by rw[show ZaF (Zc1 l f v) l.length=0 from hdv v hv];exact By _),ZgN]
def ZiM (l:List Bd)(f:List Int)(k:Nat):Int:=match l[k]? with|some b=>at0 f k*b.2.2.1|none=>0
def Zlk (l:List Bd)(f:List Int):Int:=ZaF (ZiM l f) l.length
theorem Znk (hb:Zb3 n l)(hfl:f.length=l.length)(hdv:∀v:Nat,v<n->ZcI l f v=0)(x:List Int):
  ZcR l x=ZaF (λ k=>match l[k]? with|some b=>at0 f k*gap x b|none=>0) l.length:=by
 have h:=ZxQ hb hfl hdv (λ v=>at0 x v);have e:∀k,k<l.length->(match l[k]? with|some b=>(at0 f k-b.2.2.2)*((λ v:Nat=>at0 x v) b.2.1.toNat-(λ v:Nat=>at0 x v) b.1.toNat)|none=>0)=
   (match l[k]? with|some b=>at0 f k*gap x b|none=>0)+-(ZdN x l k):=by
  intro k hk;obtain⟨b,hbk⟩:=Zac hk;have hbb:=hb k b hbk;simp only[hbk,ZdN];rw[show((b.1.toNat:Nat):Int)=b.1 by omega,show((b.2.1.toNat:Nat):Int)=b.2.1 by omega,Int.sub_mul,gap];omega
 rw[ZeQ e,Zir,ZkF]at h;rw[ZcR];omega
theorem ZxR (hb:Zb3 n l)(hfl:f.length=l.length)(hpos:∀k:Nat,0<=at0 f k)(hdv:∀v:Nat,v<n->ZcI l f v=0){x:List Int}(hx:PotB l (zeros l) (λ v=>at0 x v)):Zlk l f<=ZcR l x:=by
 rw[Znk hb hfl hdv];refine ZkE λ k hk=>?_
 obtain⟨b,hbk⟩:=Zac hk;simp only[ZiM,hbk];exact Cj (Zl2 hb hx hbk).1 (hpos k)
theorem Znm (hb:Zb3 n l)(hfl:f.length=l.length)(hpos:∀k:Nat,0<=at0 f k)(hdv:∀v:Nat,v<n->ZcI l f v=0){x:List Int}(hx:PotB l f (λ v=>at0 x v)):ZcR l x=Zlk l f:=by
 rw[Znk hb hfl hdv];refine ZeQ λ k hk=>?_
 obtain⟨b,hbk⟩:=Zac hk;simp only[ZiM,hbk];obtain⟨h1,h2⟩:=Zl2 hb hx hbk;rcases Be 0 (at0 f k)with h|h
 ·have:=h2 h;rw[show gap x b=b.2.2.1 by omega]
 ·have:=hpos k;rw[show at0 f k=0 by omega];simp
theorem Zvi (hb:Zb3 n l)(hfl:f.length=l.length)(hpos:∀k:Nat,0<=at0 f k)(hdv:∀v:Nat,v<n->ZcI l f v=0){x:List Int}(hx:PotB l (zeros l) (λ v=>at0 x v))(hc:ZcR l x<=Zlk l f):PotB l f (λ v=>at0 x v):=by
 intro k b hk;refine⟨(hx k b hk).1,λ hf=>gI λ hno=>?_⟩;have hkl:=(uB.1 hk).1;have hbb:=hb k b hk;rw[Znk hb hfl hdv]at hc;have hlt:=Zml (g:=ZiM l f) (h:=λ k=>match l[k]? with|some b=>at0 f k*gap x b|none=>0) (n:=l.length) (i:=k) (λ j hj=>by
  obtain⟨c,hcj⟩:=Zac hj;simp only[ZiM,hcj];exact Cj (Zl2 hb hx hcj).1 (hpos j)) hkl (by
  simp only[ZiM,hk];refine Int.mul_lt_mul_of_pos_left ?_ hf;have h1:=(hx k b hk).1;dsimp only at h1 hno;rw[show((b.1.toNat:Nat):Int)=b.1 by omega,show((b.2.1.toNat:Nat):Int)=b.2.1 by omega]at h1 hno;rw[gap];omega)
 rw[Zlk]at hc;omega
theorem Zlb (hb:Zb3 n l)(h:Best n l r f){x:List Int}(hx:PotB l (zeros l) (λ v=>at0 x v)):
  ZcR l r<=ZcR l x/\(ZcR l x=ZcR l r->(∀v:Nat,v<n->0<=at0 x v)->∀v:Nat,v<n->at0 r v<=at0 x v):=by
 have e1:=Znm hb h.fl (λ k=>(h.pos k).1) h.dv (ZhR hb h);have e2:=ZxR hb h.fl (λ k=>(h.pos k).1) h.dv hx;refine⟨by omega,λ hc h0 v hv=>?_⟩;have hp:=(Zje hb).2 (Zvi hb h.fl (λ k=>(h.pos k).1) h.dv hx (by omega));obtain⟨⟨j,hw⟩,_⟩:=h.opt v hv;have:=ZvB (lo:=0) hp (λ u hu=>h0 u (Zj9.1 hu)) hw;omega
end best
theorem ZtU {P:Program}{B X:Nat->Prop}{w0:W0}{n:Nat}{Q:Exit->St->Prop}{S:St}{id:Nat}(k:Nat)(_hid:Nat.blt id k=true)(own:Nat->Bool)(ZcT:P.follows .mixedOrders=true){ops:Array Oper}{draw:Bool}
  (h:Zad P own ops.toList ops.toList S [] λ S' fs=>Zih n ops draw fs.reverse=true/\Q .normal S'):PW P B X w0 n (.region id ops draw) Q S:=ZgF own ZcT h
section mid
variable {n:Nat}{l:List Bd}{a b f f2:List Int}
theorem ZlL {k:Nat}{c:Bd}:(l.map mirB)[k]? =some c↔∃d,l[k]? =some d/\c=mirB d:=by
 rw[uI];cases l[k]? with
 |none=>simp
 |some d=>simp[eq_comm]
theorem Zn7 (hg:nOk ((n:Int),l)=true):nOk ((n:Int),l.map mirB)=true:=by
 simp only[nOk,uL,uF,yC,yS]at hg|-;refine⟨by simpa using hg.1,λ c hc=>?_⟩;obtain⟨d,hd,rfl⟩:=uP.1 hc;have e:bdIn (n:Int) (mirB d)=bdIn (n:Int) d:=Cc.2
  ⟨λ⟨h1,h2,h3,h4,h5,h6⟩=>⟨h3,h4,h1,h2,λ h=>h5 h.symm,h6⟩,λ⟨h1,h2,h3,h4,h5,h6⟩=>⟨h3,h4,h1,h2,λ h=>h5 h.symm,h6⟩⟩
 rw[e];exact hg.2 d hd
def Zf4 (n:Nat)(r:List Int):List Int:=(List.range n).map λ v:Nat=>-(at0 r v)
theorem Zhb {r:List Int}{v:Nat}(hv:v<n):at0 (Zf4 n r) v=-(at0 r v):=by
 rw[at0,uM];simp[Zf4,hv]
theorem ZoH (hb:Zb3 n l){r:List Int}(h:PotB l (zeros l) (λ v=>at0 r v)):PotB (l.map mirB) (zeros (l.map mirB)) (λ v=>at0 (Zf4 n r) v):=by
 intro k c hk;obtain⟨d,hd,rfl⟩:=ZlL.1 hk;have hbb:=hb k d hd;have h1:=(h k d hd).1;refine⟨?_,λ hf=>by rw[ZiE]at hf;omega⟩;dsimp only[mirB]at h1|-;rw[Zhb (by omega),Zhb (by omega)];omega
theorem ZBX (hb:Zb3 n l){r:List Int}(h:PotB (l.map mirB) (zeros (l.map mirB)) (λ v=>at0 r v)):PotB l (zeros l) (λ v=>at0 (Zf4 n r) v):=by
 intro k d hd;have hbb:=hb k d hd;have h1:=(h k (mirB d) (ZlL.2 ⟨d,hd,rfl⟩)).1;refine⟨?_,λ hf=>by rw[ZiE]at hf;omega⟩;dsimp only[mirB]at h1|-;rw[Zhb (by omega),Zhb (by omega)];omega
theorem ZrB (hb:Zb3 n l){r:List Int}{k:Nat}{d:Bd}(hd:l[k]? =some d):gap (Zf4 n r) d=gap r (mirB d)/\gap (Zf4 n r) (mirB d)=gap r d:=by
 have hbb:=hb k d hd;have e1:at0 (Zf4 n r) d.1=-(at0 r d.1):=by
  have:=Zhb (n:=n) (r:=r) (v:=d.1.toNat) (by omega)
  rwa [show((d.1.toNat:Nat):Int)=d.1 by omega]at this
 have e2:at0 (Zf4 n r) d.2.1=-(at0 r d.2.1):=by
  have:=Zhb (n:=n) (r:=r) (v:=d.2.1.toNat) (by omega)
  rwa [show((d.2.1.toNat:Nat):Int)=d.2.1 by omega]at this
 simp only[gap,mirB];rw[e1,e2];omega
theorem ZqP (hb:Zb3 n l)(r:List Int):ZcR l (Zf4 n r)=ZcR (l.map mirB) r/\ZcR (l.map mirB) (Zf4 n r)=ZcR l r:=by
 simp only[ZcR,uC];refine⟨ZeQ λ k hk=>?_,ZeQ λ k hk=>?_⟩
 ·obtain⟨d,hd⟩:=Zac hk;simp only[ZdN,hd,ZlL.2 ⟨d,hd,rfl⟩,(ZrB hb hd).1];rfl
 ·obtain⟨d,hd⟩:=Zac hk;simp only[ZdN,hd,ZlL.2 ⟨d,hd,rfl⟩,(ZrB hb hd).2];rfl
theorem lowN_le {h:Nat->Int}:∀{k v:Nat},v<k->ZbA h k<=h v:=by
 intro k
 induction k with
 |zero=>intro v hv;omega
 |succ k ih=>
  intro v hv;rw[ZbA];rcases uE v k with h1|h1
  ·have:=ih h1;split
   ·rename_i hc;rcases hc with hc|hc
    ·omega
    ·omega
   ·exact this
  ·have:v=k:=by omega
   subst this;split<;>omega
theorem Zh9 {h:Nat->Int}{m:Int}:∀{k:Nat},0<k->(∀v,v<k->m<=h v)->m<=ZbA h k:=by
 intro k
 induction k with
 |zero=>intro h0;omega
 |succ k ih=>
  intro _ hh;rw[ZbA];have h1:=hh k (by omega);split
  ·exact h1
  ·rename_i hc;exact ih (by omega) λ v hv=>hh v (by omega)
theorem Zn5 {v:Nat}(hv:v<a.length):at0 (midF a b) v=halfAt a b (topN a b a.length) v-ZbA (halfAt a b (topN a b a.length)) a.length:=by
 rw[at0,uM];simp[midF,hv]
theorem ZsL (hg:nOk ((n:Int),l)=true)(ha:Best n l a f)(hb:Best n (l.map mirB) b f2):Zd7 ((n:Int),l) (midF a b)=true/\ZgY ((n:Int),l) (midF a b)=ZgY ((n:Int),l) a:=by
 obtain⟨hbd,hn,hll⟩:=Zfq hg;obtain⟨hbm,_,_⟩:=Zfq (Zn7 hg);have pa:=ZhR hbd ha;have pb:=ZhR hbm hb;have px:=ZBX hbd (potB_zeros pb);have py:=ZoH hbd (potB_zeros pa);obtain⟨c1,c2⟩:=ZqP hbd b;obtain⟨c3,c4⟩:=ZqP hbd a;have h1:=(Zlb hbd ha px).1;have h2:=(Zlb hbm hb py).1;have hva:=Znm hbd ha.fl (λ k=>(ha.pos k).1) ha.dv pa;have pt:=Zvi hbd ha.fl (λ k=>(ha.pos k).1) ha.dv px (by omega)
 have hfa:fromTo a 34359738368:=λ v=>by have:=ZhQ hbd ha v;omega
 have hfb:fromTo b 34359738368:=λ v=>by have:=ZhQ hbm hb v;omega
 have htop:=Zpm hfa hfb a.length;have hge:=λ v (hv:v<a.length)=>Zvk (a:=a) (b:=b) hv
 generalize ht:topN a b a.length=t at htop hge;have hmid:∀v:Nat,v<n->at0 (midF a b) v=(at0 a v+t-at0 b v)/2-ZbA (halfAt a b t) a.length:=λ v hv=>by
  rw[Zn5 (by rw[ha.rl];exact hv),ht];rfl
 have hlow:∀v:Nat,v<n->ZbA (halfAt a b t) a.length<=(at0 a v+t-at0 b v)/2/\0<=ZbA (halfAt a b t) a.length:=λ v hv=>by
  refine⟨lowN_le (h:=halfAt a b t) (by rw[ha.rl];exact hv),Zh9 (by rw[ha.rl];omega) λ u hu=>?_⟩;have:=hge u hu;have:=hfa u;rw[halfAt];omega
 have pm:PotB l f (λ v=>at0 (midF a b) v):=by
  intro k d hk;have hbb:=hbd k d hk;obtain⟨a1,a2⟩:=pa k d hk;obtain⟨x1,x2⟩:=pt k d hk;dsimp only at a1 a2 x1 x2|-;rw[Zhb (by omega),Zhb (by omega)]at x1 x2;rw[hmid _ (by omega),hmid _ (by omega)];exact⟨by omega,λ hf=>by have:=a2 hf;have:=x2 hf;omega⟩
 have hml:(midF a b).length=n:=by simp[midF,ha.rl]
 have hfe:Zd7 ((n:Int),l) (midF a b)=true:=Zrj hg hml (λ v hv=>by
  rw[hmid v hv];have:=hlow v hv;have:=hge v (by rw[ha.rl];exact hv);have:=hfa v;have:=hfb v;omega) (potB_zeros pm)
 refine⟨hfe,?_⟩;have hr1:rkOk ((n:Int),l) (midF a b)=true:=by simp only[Zd7,uL]at hfe;exact hfe.1
 have hfa2:=best_feas hg ha;have hr2:rkOk ((n:Int),l) a=true:=by simp only[Zd7,uL]at hfa2;exact hfa2.1
 rw[cost_is hr1,cost_is hr2,Znm hbd ha.fl (λ k=>(ha.pos k).1) ha.dv pm,hva]
end mid
end Go.Proofs.YtjjbhjnpeenbkaaGreatDoor.Sx
