/- Walks in a net of steps; the search for longest ways: it ends, and its ways are the longest. -/
import Derived.Test.YtjjbhjnpeenbkaaGreatDoorSxK
import Derived.Test.YtjjbhjnpeenbkaaGreatDoorTypes
set_option linter.unusedSimpArgs false
set_option linter.unusedVariables false
set_option maxHeartbeats 16000000
namespace Go.Proofs.YtjjbhjnpeenbkaaGreatDoor.Sx
open Go Go.PS Go.Proofs
section partU
theorem ZvG :∀(n:Nat) (l:List Nat),l.Nodup->(∀x∈l,x<n)->l.length<=n:=by
 intro n
 induction n with
 |zero=>intro l _ h;cases l with
  |nil=>exact uH _
  |cons a l=>have:=h a (by simp);omega
 |succ n ih=>
  intro l hl h;by_cases hn:n∈l
  ·have h1:=ih (l.erase n) (hl.erase n) (λ x hx=>by
    have h2:=(hl.mem_erase_iff).1 hx;have:=h x h2.2;omega)
   rw[zP hn]at h1;omega
  ·have:=ih l hl (λ x hx=>by
    have:=h x hx;have:x≠n:=λ he=>hn (he▸hx)
    omega)
   omega
theorem ZvH {g:Nat->Nat}:∀(k:Nat),(∀i j,i<j->j<k->g i≠g j)->((List.range k).map g).Nodup:=by
 intro k
 induction k with
 |zero=>intro _;simp
 |succ k ih=>
  intro h;rw[gG,yB,gV];refine⟨ih λ i j hij hj=>h i j hij (by omega),by simp,λ a ha b hb=>?_⟩;obtain⟨i,hi,rfl⟩:=uN.1 ha;simp at hb;rw[hb];exact h i k (yD.1 hi) (by omega)
theorem ZoK {g:Nat->Nat}{k n:Nat}(h:∀i,i<k->g i<n)(inj:∀i j,i<j->j<k->g i≠g j):k<=n:=by
 have:=ZvG n _ (ZvH k inj) (λ x hx=>by
  obtain⟨i,hi,rfl⟩:=uN.1 hx;exact h i (yD.1 hi))
 simpa using this
inductive Wk (ST:Nat->List Stp)(S:Nat->Prop):Nat->Nat->Int->Prop
 |start (v:Nat) (h:S v):Wk ST S 0 v 0
 |step (k v:Nat) (d:Int) (s:Stp) (h:Wk ST S k v d) (hs:s∈ST v):Wk ST S (k+1) s.1.toNat (d+s.2.1)
def Pot (ST:Nat->List Stp)(p:Nat->Int):Prop:=∀v s,s∈ST v->p v+s.2.1<=p s.1.toNat
def Zcp (n:Nat)(ST:Nat->List Stp):Prop:=∀v s,s∈ST v->v<n/\0<=s.1/\s.1<(n:Int)/\s.1≠v/\-16777216<=s.2.1/\s.2.1<=16777216
variable {ST:Nat->List Stp}{S:Nat->Prop}{n:Nat}{p:Nat->Int}
theorem ZzU {lo:Int}(hp:Pot ST p)(hlo:∀v,S v->lo<=p v){k v:Nat}{d:Int}(h:Wk ST S k v d):d<=p v-lo:=by
 induction h with
 |start v h=>have:=hlo v h;omega
 |step k v d s _ hs ih=>have:=hp v s hs;omega
theorem ZiW (hg:Zcp n ST)(hS:∀v,S v->v<n){k v:Nat}{d:Int}(h:Wk ST S k v d):v<n:=by
 cases h with
 |start v h=>exact hS v h
 |step k v d s _ hs=>have:=hg v s hs;omega
theorem Zkn (hg:Zcp n ST){k v:Nat}{d:Int}(h:Wk ST S k v d):-(16777216*(k:Int))<=d/\d<=16777216*(k:Int):=by
 induction h with
 |start v h=>omega
 |step k v d s _ hs ih=>have:=hg v s hs;omega
def Opt (ST:Nat->List Stp)(S:Nat->Prop)(v:Nat)(d:Int):Prop:=(∃k,Wk ST S k v d)/\∀k d',Wk ST S k v d'->d'<=d
theorem ZlV {v:Nat}{d d':Int}(h:Opt ST S v d)(h':Opt ST S v d'):d=d':=by
 obtain⟨⟨k,hk⟩,h1⟩:=h;obtain⟨⟨k',hk'⟩,h2⟩:=h';have:=h1 k' d' hk';have:=h2 k d hk;omega
theorem ZtE {P:Int->Prop}{B:Int}(hb:∀d,P d->d<=B):∀(m:Nat) (a:Int),P a->B-a<=m->∃d,P d/\∀d',P d'->d'<=d:=by
 intro m
 induction m with
 |zero=>intro a ha hm;exact⟨a,ha,λ d' hd=>by have:=hb d' hd;omega⟩
 |succ m ih=>
  intro a ha hm;by_cases h:∃d,P d/\a<d
  ·obtain⟨d,hd,hlt⟩:=h;exact ih d hd (by omega)
  ·exact⟨a,ha,λ d' hd=>by
    rcases Az a d' with h1|h1
    ·exact absurd ⟨d',hd,h1⟩ h
    ·exact h1⟩
theorem ZpD {lo:Int}(hp:Pot ST p)(hlo:∀v,S v->lo<=p v){k v:Nat}{d:Int}(h:Wk ST S k v d):∃d',Opt ST S v d':=by
 obtain⟨d',⟨k',h1⟩,h2⟩:=ZtE (P:=λ d=>∃k,Wk ST S k v d) (B:=p v-lo) (λ d ⟨k,hk⟩=>ZzU hp hlo hk) (p v-lo-d).toNat d ⟨k,h⟩ (by omega);exact⟨d',⟨k',h1⟩,λ k d'' hd=>h2 d'' ⟨k,hd⟩⟩
def Zi1 (ST:Nat->List Stp)(S:Nat->Prop)(k v:Nat):Prop:=∃d,Opt ST S v d/\Wk ST S k v d/\∀j,j<k->¬Wk ST S j v d
theorem Zvj :∀(k v:Nat),Zi1 ST S k v->∃g:Nat->Nat,∀i,i<=k->Zi1 ST S i (g i):=by
 intro k
 induction k with
 |zero=>intro v h;exact⟨λ _=>v,λ i hi=>by rw[show i=0 by omega];exact h⟩
 |succ k ih=>
  intro v h;have h0:=h;obtain⟨d,ho,hw,hmin⟩:=h;cases hw with
  |step _ u d0 s hu hs=>
   have hou:Opt ST S u d0:=⟨⟨k,hu⟩,λ j d1 h1=>by
    have:=ho.2 _ _ (Wk.step j u d1 s h1 hs);omega⟩
   obtain⟨g,hg⟩:=ih u ⟨d0,hou,hu,λ j hj hwj=>hmin (j+1) (by omega) (.step j u d0 s hwj hs)⟩;refine⟨λ i=>if i=k+1 then s.1.toNat else g i,λ i hi=>?_⟩;simp only;split
   ·rename_i h;rw[h];exact h0
   ·exact hg i (by omega)
theorem Zvk {v:Nat}{d:Int}(h:Opt ST S v d):∃k,Zi1 ST S k v:=by
 obtain⟨k,hk⟩:=h.1;have key:∀m k,k<=m->Wk ST S k v d->∃k,Zi1 ST S k v:=by
  intro m
  induction m with
  |zero=>intro k hk0 hk;exact⟨k,d,h,hk,λ j hj=>by omega⟩
  |succ m ih=>
   intro k hkm hk;by_cases hex:∃j,j<k/\Wk ST S j v d
   ·obtain⟨j,hj,hw⟩:=hex;exact ih j (by omega) hw
   ·exact⟨k,d,h,hk,λ j hj hw=>hex ⟨j,hj,hw⟩⟩
 exact key k k (uH _) hk
theorem ZpE (hg:Zcp n ST)(hS:∀v,S v->v<n){v:Nat}{d:Int}(h:Opt ST S v d):∃k,k+1<=n/\Wk ST S k v d:=by
 obtain⟨k,hk⟩:=Zvk h;obtain⟨g,hgm⟩:=Zvj k v hk;have hle:k+1<=n:=ZoK (g:=g) (λ i hi=>by
  obtain⟨d,_,hw,_⟩:=hgm i (by omega);exact ZiW hg hS hw) (λ i j hij hj he=>by
  obtain⟨d1,o1,w1,m1⟩:=hgm i (by omega);obtain⟨d2,o2,w2,m2⟩:=hgm j (by omega);rw[he]at o1 w1;have:=ZlV o1 o2;subst this;exact m2 i hij w1)
 obtain⟨d',o,w,_⟩:=hk;rw[ZlV h o];exact⟨k,hle,w⟩
end partU
section partV
abbrev lgW (W:List Way)(v:Nat):Int:=(wAt W (v:Int)).1
abbrev bgW (W:List Way)(v:Int):Bool:=(wAt W v).2.2.2
def Stop (W:List Way)(v:Int)(k:Nat):Prop:=bgW W (Zao W v k)=true/\∀j,j<k->bgW W (Zao W v j)=false
def Rch (W:List Way)(v:Nat):Prop:=lgW W v≠-1152921504606846976
def ZrL (ST:Nat->List Stp)(S:Nat->Prop)(n:Nat)(W:List Way)(v:Nat):Prop:=
 (wAt W (v:Int)=ZcW/\S v)\/(∃u:Nat,u<n/\Rch W u/\(wAt W (v:Int)).2.1=u/\(wAt W (v:Int)).2.2.1∈ST u/\(wAt W (v:Int)).2.2.1.1=v/\bgW W v=false/\lgW W v<=lgW W u+(wAt W (v:Int)).2.2.1.2.1)
structure InvW (ST:Nat->List Stp)(S:Nat->Prop)(n c:Nat)(W:List Way):Prop where
 len:W.length=n
 sound:∀v,v<n->wAt W (v:Int)=Zdz\/(Rch W v/\∃j,j<=c/\Wk ST S j v (lgW W v))
 starts:∀v,S v->v<n/\0<=lgW W v
 par:∀v,v<n->Rch W v->ZrL ST S n W v
 chain:∀v,v<n->Rch W v->∃k,Stop W v k
variable {ST:Nat->List Stp}{S:Nat->Prop}{n:Nat}{p:Nat->Int}
theorem Zj1 {c:Nat}{W:List Way}(h:InvW ST S n c W){v:Nat}(hv:v<n)(hr:Rch W v):∃j,j<=c/\Wk ST S j v (lgW W v):=by
 rcases h.sound v hv with h1|h1
 ·exact absurd (by rw[lgW,h1];rfl) hr
 ·exact h1.2
theorem Zgw (W:List Way)(v:Int)(i:Nat):∀j,Zao W v (i+j)=Zao W (Zao W v i) j
 |0=>rfl
 |j+1=>by rw[<-jL,Zeo,Zeo,Zgw W v i j]
theorem ZkW {c:Nat}{W:List Way}(hp:Pot ST p)(h:InvW ST S n c W){v:Nat}(hv:v<n)(hr:Rch W v){k:Nat}(hk:∀j,j<k->bgW W (Zao W v j)=false):
  ∀i,i<=k->∃u:Nat,Zao W v i=u/\u<n/\Rch W u/\lgW W v-lgW W u<=p v-p u:=by
 intro i
 induction i with
 |zero=>intro _;exact⟨v,rfl,hv,hr,by omega⟩
 |succ i ih=>
  intro hi;obtain⟨u,hu,hun,hur,hle⟩:=ih (by omega);have hb:=hk i (by omega);rw[hu]at hb;rcases h.par u hun hur with⟨h1,_⟩|⟨x,hx,hxr,h1,h2,h3,_,h5⟩
  ·rw[bgW,h1]at hb;cases hb
  ·refine⟨x,by rw[Zeo,hu];exact h1,hx,hxr,?_⟩;have:=hp x _ h2;rw[h3,uQ]at this;omega
theorem Zy2 {W:List Way}{v:Int}{k:Nat}(h:Stop W v k):∀i j,i<j->j<=k->Zao W v i≠Zao W v j:=by
 intro i j hij hjk he;obtain⟨h1,h2⟩:=h;have e1:Zao W v (j+(k-j))=Zao W (Zao W v j) (k-j):=Zgw W v j (k-j);have e2:Zao W v (i+(k-j))=Zao W (Zao W v i) (k-j):=Zgw W v i (k-j);rw[he,<-e1,show j+(k-j)=k by omega]at e2;have:=h2 (i+(k-j)) (by omega);rw[e2,h1]at this;cases this
theorem ZwY {c:Nat}{W:List Way}(hp:Pot ST p)(hg:Zcp n ST)(hc:c+1<=34359738368)(h:InvW ST S n (c+1) W){v:Nat}{s:Stp}(hv:v<n)(hr:Rch W v)(hw:∃j,j<=c/\Wk ST S j v (lgW W v))(hs:s∈ST v)
  (hlt:(wAt W s.1).1<(wAt W v).1+s.2.1):InvW ST S n (c+1) (W.set s.1.toNat ((wAt W v).1+s.2.1,v,s,false)):=by
 obtain⟨hvn,hs0,hsn,hsv,hl1,hl2⟩:=hg v s hs;obtain⟨j,hj,hwk⟩:=hw;obtain⟨t,ht⟩:∃t:Nat,s.1=t:=⟨s.1.toNat,by omega⟩;have htn:t<n:=by omega
 have hset:∀u:Nat,wAt (W.set s.1.toNat ((wAt W v).1+s.2.1,v,s,false)) (u:Int)=if(u:Int)=s.1 then((wAt W v).1+s.2.1,(v:Int),s,false)else wAt W u:=
  λ u=>Zgo (by omega) hs0 (by rw[h.len];omega)
 have hbd:=Zkn hg hwk;simp only[lgW]at hbd;have hnew:(wAt W v).1+s.2.1≠-1152921504606846976:=by omega
 have hpv:=hp v s hs;rw[ht,uQ]at hpv;have hltt:lgW W t<lgW W v+s.2.1:=by rw[lgW,lgW,<-ht];exact hlt
 have hltt2:(wAt W (t:Int)).1<(wAt W (v:Int)).1+s.2.1:=hltt;generalize hW':W.set s.1.toNat ((wAt W v).1+s.2.1,(v:Int),s,false)=W' at hset|-;have hT:wAt W' (t:Int)=(lgW W v+s.2.1,(v:Int),s,false):=by rw[hset,if_pos ht.symm]
 have hO:∀u:Nat,u≠t->wAt W' (u:Int)=wAt W u:=λ u hu=>by rw[hset,if_neg (by omega)]
 have hmono:∀u:Nat,lgW W u<=lgW W' u:=λ u=>by
  by_cases hu:u=t
  ·subst hu;rw[lgW,lgW,hT];exact Int.le_of_lt hltt2
  ·rw[lgW,lgW,hO u hu];exact gC _
 have hrT:Rch W' t:=by rw[Rch,lgW,hT];exact hnew
 have hrO:∀u:Nat,u≠t->(Rch W' u↔Rch W u):=λ u hu=>by rw[Rch,Rch,lgW,lgW,hO u hu]
 have hvt:v≠t:=by omega
 obtain⟨kv,hkv⟩:=h.chain v hv hr;have hcv:=ZkW hp h hv hr hkv.2;have hno:∀i,i<=kv->Zao W v i≠(t:Int):=by
  intro i hi he;obtain⟨u,hu,_,_,hle⟩:=hcv i hi;have:u=t:=by rw[he]at hu;omega
  subst this;omega
 have hsame:∀i,i<=kv->Zao W' v i=Zao W v i:=by
  intro i
  induction i with
  |zero=>intro _;rfl
  |succ i ih=>
   intro hi;obtain⟨u,hu,_⟩:=hcv i (by omega);have:=hno i (by omega);rw[Zeo,Zeo,ih (by omega),hu,hO u (by rw[hu]at this;omega)]
 have hstopv:Stop W' v kv:=by
  refine⟨?_,λ j hj=>?_⟩
  ·obtain⟨u,hu,_⟩:=hcv kv (uH _);have h1:=hno kv (uH _);rw[hsame kv (uH _),hu,bgW,hO u (by rw[hu]at h1;omega),<-hu];exact hkv.1
  ·obtain⟨u,hu,_⟩:=hcv j (by omega);have h1:=hno j (by omega);rw[hsame j (by omega),hu,bgW,hO u (by rw[hu]at h1;omega),<-hu];exact hkv.2 j hj
 have hstopt:Stop W' t (1+kv):=by
  have hb1:Zao W' (t:Int) 1=v:=by rw[Zeo];show(wAt W' (t:Int)).2.1=v;rw[hT]
  refine⟨by rw[Zgw,hb1];exact hstopv.1,λ j hj=>?_⟩;cases j with
  |zero=>show(wAt W' (t:Int)).2.2.2=false;rw[hT]
  |succ j=>rw[show j+1=1+j by omega,Zgw,hb1];exact hstopv.2 j (by omega)
 refine⟨by rw[<-hW'];simp[h.len],λ u hu=>?_,λ u hu=>?_,λ u hu hru=>?_,λ u hu hru=>?_⟩
 ·by_cases hut:u=t
  ·subst hut
   right
   refine⟨hrT,j+1,by omega,?_⟩;have:=Wk.step j v _ s hwk hs;rw[ht,uQ]at this;rw[lgW,hT];exact this
  ·rw[hrO u hut,lgW,hO u hut];exact h.sound u hu
 ·have:=h.starts u hu;have:=hmono u;omega
 ·by_cases hut:u=t
  ·subst hut
   right
   refine⟨v,hv,(hrO v hvt).2 hr,by rw[hT],by rw[hT];exact hs,by rw[hT];exact ht,by rw[bgW,hT],?_⟩;rw[lgW,hT];exact Int.add_le_add_right (hmono v) _
  ·have hru':=(hrO u hut).1 hru;rcases h.par u hu hru' with⟨h1,h2⟩|⟨x,hx,hxr,h1,h2,h3,h4,h5⟩
   ·left;rw[hO u hut];exact⟨h1,h2⟩
   ·right
    refine⟨x,hx,?_,?_⟩
    ·by_cases hxt:x=t
     ·subst hxt;exact hrT
     ·exact(hrO x hxt).2 hxr
    ·rw[lgW,bgW,hO u hut];exact⟨h1,h2,h3,h4,Ak h5 (Int.add_le_add_right (hmono x) _)⟩
 ·by_cases hut:u=t
  ·subst hut;exact⟨_,hstopt⟩
  ·have hru':=(hrO u hut).1 hru;obtain⟨k,hk⟩:=h.chain u hu hru';have hcu:=ZkW hp h hu hru' hk.2
   have hpre:∀i,i<=k->(∀j,j<i->Zao W u j≠(t:Int))->Zao W' u i=Zao W u i:=by
    intro i
    induction i with
    |zero=>intro _ _;rfl
    |succ i ih=>
     intro hi hno;obtain⟨x,hx,_⟩:=hcu i (by omega);have:=hno i (by omega);rw[Zeo,Zeo,ih (by omega) (λ j hj=>hno j (by omega)),hx,hO x (by rw[hx]at this;omega)]
   have hbg:∀i,i<=k->Zao W u i≠(t:Int)->bgW W' (Zao W u i)=bgW W (Zao W u i):=by
    intro i hi hne;obtain⟨x,hx,_⟩:=hcu i hi;rw[hx,bgW,bgW,hO x (by rw[hx]at hne;omega)]
   by_cases hmeet:∃i,i<=k/\Zao W u i=(t:Int)
   ·have least:∀m i,i<=m->i<=k->Zao W u i=(t:Int)->∃i,i<=k/\Zao W u i=(t:Int)/\∀j,j<i->Zao W u j≠(t:Int):=by
     intro m
     induction m with
     |zero=>intro i hi hik he;exact⟨i,hik,he,λ j hj=>by omega⟩
     |succ m ih=>
      intro i hi hik he;by_cases hex:∃j,j<i/\Zao W u j=(t:Int)
      ·obtain⟨j,hj,hje⟩:=hex;exact ih j (by omega) (by omega) hje
      ·exact⟨i,hik,he,λ j hj hje=>hex ⟨j,hj,hje⟩⟩
    obtain⟨i,hi,he⟩:=hmeet;obtain⟨i,hik,hie,hno2⟩:=least i i (uH _) hi he;have e1:Zao W' u i=(t:Int):=by rw[hpre i hik hno2,hie]
    refine⟨i+(1+kv),by rw[Zgw,e1];exact hstopt.1,λ j hj=>?_⟩;rcases uF j i with h1|h1
    ·rw[hpre j (by omega) (λ j' hj'=>hno2 j' (by omega)),hbg j (by omega) (hno2 j h1)];exact hk.2 j (by omega)
    ·rw[show j=i+(j-i) by omega,Zgw,e1];exact hstopt.2 (j-i) (by omega)
   ·have hno2:∀i,i<=k->Zao W u i≠(t:Int):=λ i hi he=>hmeet ⟨i,hi,he⟩
    refine⟨k,?_,λ j hj=>?_⟩
    ·rw[hpre k (uH _) (λ j hj=>hno2 j (by omega)),hbg k (uH _) (hno2 k (uH _))];exact hk.1
    ·rw[hpre j (by omega) (λ j' hj'=>hno2 j' (by omega)),hbg j (by omega) (hno2 j (by omega))];exact hk.2 j hj
end partV
section partX
variable {ST:Nat->List Stp}{S:Nat->Prop}{n:Nat}{p:Nat->Int}
structure InvQ (ST:Nat->List Stp)(n:Nat)(σ:LS)(rest:Int->Prop)(ex:Nat->Prop):Prop where
 lenW:σ.1.length=n
 lenB:σ.2.1.length=n
 wait:∀v:Nat,v<n->bAt σ.2.1 v=true->(v:Int)∈σ.2.2\/rest v
 sat:∀v:Nat,v<n->Rch σ.1 v->¬ex v->(∀s∈ST v,lgW σ.1 v+s.2.1<=(wAt σ.1 s.1).1)\/(v:Int)∈σ.2.2\/rest v
 pr:∀x,x∈σ.2.2\/rest x->0<=x/\x<(n:Int)
theorem Znp {B:List Bool}{u v:Int}{x:Bool}(h1:0<=u)(h2:0<=v)(h3:v.toNat<B.length):bAt (B.set v.toNat x) u=if u=v then x else bAt B u:=by
 rw[bAt,qD];by_cases h:u=v
 ·subst h;rw[if_pos rfl,if_pos h3,if_pos rfl];rfl
 ·rw[if_neg (by omega),if_neg h];rfl
theorem Zw2 {σ:LS}{rest:Int->Prop}{v:Nat}{s:Stp}(hg:Zcp n ST)(h:InvQ ST n σ rest (·=v))(hs:s∈ST v):
  InvQ ST n (Za3 v σ s) rest (·=v)/\(∀u:Nat,lgW σ.1 u<=lgW (Za3 v σ s).1 u)/\lgW (Za3 v σ s).1 v=lgW σ.1 v/\lgW σ.1 v+s.2.1<=(wAt (Za3 v σ s).1 s.1).1:=by
 obtain⟨hvn,hs0,hsn,hsv,hl1,hl2⟩:=hg v s hs;by_cases hlt:(wAt σ.1 s.1).1<(wAt σ.1 v).1+s.2.1
 ·have hset:∀u:Nat,wAt (σ.1.set s.1.toNat ((wAt σ.1 v).1+s.2.1,v,s,false)) (u:Int)=if(u:Int)=s.1 then((wAt σ.1 v).1+s.2.1,(v:Int),s,false)else wAt σ.1 u:=
   λ u=>Zgo (by omega) hs0 (by rw[h.lenW];omega)
  have hsets:wAt (σ.1.set s.1.toNat ((wAt σ.1 v).1+s.2.1,v,s,false)) s.1=((wAt σ.1 v).1+s.2.1,(v:Int),s,false):=by
   rw[Zgo hs0 hs0 (by rw[h.lenW];omega),if_pos rfl]
  have hmono:∀u:Nat,lgW σ.1 u<=lgW (σ.1.set s.1.toNat ((wAt σ.1 v).1+s.2.1,v,s,false)) u:=λ u=>by
   rw[lgW,lgW,hset];split
   ·rename_i he;rw[he];dsimp only;omega
   ·exact gC _
  have hmono2:∀x:Int,0<=x->(wAt σ.1 x).1<=(wAt (σ.1.set s.1.toNat ((wAt σ.1 v).1+s.2.1,v,s,false)) x).1:=λ x hx=>by
   have:=hmono x.toNat
   rwa [lgW,lgW,show((x.toNat:Nat):Int)=x by omega]at this
  have hv':lgW (σ.1.set s.1.toNat ((wAt σ.1 v).1+s.2.1,v,s,false)) v=lgW σ.1 v:=by rw[lgW,lgW,hset,if_neg (by omega)]
  have hsat:∀u:Nat,u<n->Rch (σ.1.set s.1.toNat ((wAt σ.1 v).1+s.2.1,v,s,false)) u->¬u=v->(u:Int)≠s.1->
    (∀s'∈ST u,lgW (σ.1.set s.1.toNat ((wAt σ.1 v).1+s.2.1,v,s,false)) u+s'.2.1<=(wAt (σ.1.set s.1.toNat ((wAt σ.1 v).1+s.2.1,v,s,false)) s'.1).1)\/(u:Int)∈σ.2.2\/rest u:=by
   intro u hu hru hne hus;have e:lgW (σ.1.set s.1.toNat ((wAt σ.1 v).1+s.2.1,v,s,false)) u=lgW σ.1 u:=by rw[lgW,lgW,hset,if_neg hus]
   rw[Rch,e]at hru;rcases h.sat u hu hru hne with h1|h1
   ·left
    intro s' hs';have:=h1 s' hs';have:=hmono2 s'.1 (hg u s' hs').2.1;rw[e];omega
   ·exact .inr h1
  rcases hb:bAt σ.2.1 s.1 with _|_
  ·have er:Za3 v σ s=(σ.1.set s.1.toNat ((wAt σ.1 v).1+s.2.1,v,s,false),σ.2.1.set s.1.toNat true,σ.2.2++[s.1]):=by
    rw[Za3,if_pos hlt,if_neg (by rw[hb];exact zZ)]
   rw[er];refine⟨⟨by simp[h.lenW],by simp[h.lenB],λ u hu hbu=>?_,λ u hu hru hne=>?_,λ x hx=>?_⟩,hmono,hv',by dsimp only;rw[hsets];exact gC _⟩
   ·dsimp only at hbu|-;rw[Znp (by omega) hs0 (by rw[h.lenB];omega)]at hbu;split at hbu
    ·rename_i he;left;rw[he];simp
    ·rcases h.wait u hu hbu with h1|h1
     ·left;exact Bj _ h1
     ·exact .inr h1
   ·by_cases hus:(u:Int)=s.1
    ·right;left;rw[hus];simp
    ·rcases hsat u hu hru hne hus with h1|h1|h1
     ·exact .inl h1
     ·exact .inr (.inl (Bj _ h1))
     ·exact .inr (.inr h1)
   ·rcases hx with hx|hx
    ·rcases yN.1 hx with hx|hx
     ·exact h.pr x (.inl hx)
     ·rw[uR.1 hx];exact⟨hs0,hsn⟩
    ·exact h.pr x (.inr hx)
  ·have er:Za3 v σ s=(σ.1.set s.1.toNat ((wAt σ.1 v).1+s.2.1,v,s,false),σ.2.1,σ.2.2):=by rw[Za3,if_pos hlt,if_pos hb]
   rw[er];refine⟨⟨by simp[h.lenW],h.lenB,h.wait,λ u hu hru hne=>?_,h.pr⟩,hmono,hv',by dsimp only;rw[hsets];exact gC _⟩;by_cases hus:(u:Int)=s.1
   ·right
    have:=h.wait s.1.toNat (by omega) (by rw[show((s.1.toNat:Nat):Int)=s.1 by omega];exact hb)
    rwa [hus,show s.1=((s.1.toNat:Nat):Int) by omega]
   ·exact hsat u hu hru hne hus
 ·have er:Za3 v σ s=σ:=by rw[Za3,if_neg hlt]
  rw[er];exact⟨h,λ u=>gC _,rfl,by simp only[lgW];omega⟩
theorem Zuv {σ:LS}{rest:Int->Prop}{v:Nat}(hg:Zcp n ST)(hv:v<n)(h:InvQ ST n σ (λ x=>x=v\/rest x) (λ _=>False)):
  ∀i,i<=(ST v).length->InvQ ST n (ZaZ (ST v) v σ i) rest (·=v)/\(∀u:Nat,lgW σ.1 u<=lgW (ZaZ (ST v) v σ i).1 u)/\lgW (ZaZ (ST v) v σ i).1 v=lgW σ.1 v/\
   ∀s∈(ST v).take i,lgW σ.1 v+s.2.1<=(wAt (ZaZ (ST v) v σ i).1 s.1).1:=by
 intro i
 induction i with
 |zero=>
  intro _;refine⟨⟨h.lenW,by simp[ZaZ,h.lenB],λ u hu hb=>?_,λ u hu hr hne=>?_,λ x hx=>?_⟩,λ u=>gC _,rfl,by simp⟩
  ·simp only[ZaZ,yY,Bz]at hb|-;rw[Znp (by omega) (by omega) (by rw[h.lenB];omega)]at hb;split at hb
   ·cases hb
   ·rename_i hne;rcases h.wait u hu hb with h1|h1|h1
    ·exact .inl h1
    ·exact absurd h1 hne
    ·exact .inr h1
  ·rcases h.sat u hu hr (λ h=>h)with h1|h1|h1|h1
   ·exact .inl h1
   ·exact .inr (.inl h1)
   ·exact absurd (by omega) hne
   ·exact .inr (.inr h1)
  ·rcases hx with hx|hx
   ·exact h.pr x (.inl hx)
   ·exact h.pr x (.inr (.inr hx))
 |succ i ih=>
  intro hi;obtain⟨h1,h2,h3,h4⟩:=ih (by omega);obtain⟨s,hs⟩:=Zad (show i<(ST v).length by omega);have hsm:=uA hs;obtain⟨r1,r2,r3,r4⟩:=Zw2 hg h1 hsm;rw[Zij hs];refine⟨r1,λ u=>Ak (h2 u) (r2 u),r3.trans h3,λ s' hs'=>?_⟩;rw[ZaD hs]at hs';rcases yN.1 hs' with hs'|hs'
  ·have e:=h4 s' hs';have h0:=(hg v s' (qR hs')).2.1;have:=r2 s'.1.toNat;rw[lgW,lgW,show((s'.1.toNat:Nat):Int)=s'.1 by omega]at this;omega
  ·rw[uR.1 hs',<-h3];exact r4
theorem Zuu {σ:LS}{rest:Int->Prop}{v:Nat}(hg:Zcp n ST)(hv:v<n)(h:InvQ ST n σ (λ x=>x=v\/rest x) (λ _=>False)):
  InvQ ST n (ZaZ (ST v) v σ (ST v).length) rest (λ _=>False)/\(∀u:Nat,lgW σ.1 u<=lgW (ZaZ (ST v) v σ (ST v).length).1 u)/\
   ∀s∈ST v,lgW σ.1 v+s.2.1<=(wAt (ZaZ (ST v) v σ (ST v).length).1 s.1).1:=by
 obtain⟨h1,h2,h3,h4⟩:=Zuv hg hv h (ST v).length (uH _);rw[uD (uH _)]at h4;refine⟨⟨h1.lenW,h1.lenB,h1.wait,λ u hu hr _=>?_,h1.pr⟩,h2,h4⟩;by_cases huv:u=v
 ·subst huv;left;intro s hs;rw[h3];exact h4 s hs
 ·exact h1.sat u hu hr huv
theorem Zpl {σ:LS}(hg:Zcp n ST)(h:InvQ ST n σ (λ _=>False) (λ _=>False)):
  ∀j,j<=σ.2.2.length->InvQ ST n (Zbi ST σ j) (λ x=>x∈σ.2.2.drop j) (λ _=>False)/\(∀u:Nat,lgW σ.1 u<=lgW (Zbi ST σ j).1 u)/\
   ∀x∈σ.2.2.take j,∀s∈ST x.toNat,lgW σ.1 x.toNat+s.2.1<=(wAt (Zbi ST σ j).1 s.1).1:=by
 intro j
 induction j with
 |zero=>
  intro _;refine⟨⟨h.lenW,h.lenB,λ u hu hb=>?_,λ u hu hr hne=>?_,λ x hx=>?_⟩,λ u=>gC _,by simp⟩
  ·rcases h.wait u hu hb with h1|h1
   ·right;simpa using h1
   ·exact h1.elim
  ·rcases h.sat u hu hr hne with h1|h1|h1
   ·exact .inl h1
   ·right;right;simpa using h1
   ·exact h1.elim
  ·rcases hx with hx|hx
   ·simp[Zbi]at hx
   ·exact h.pr x (.inl (by simpa using hx))
 |succ j ih=>
  intro hj;obtain⟨h1,h2,h3⟩:=ih (by omega);obtain⟨x,hx⟩:=Zad (show j<σ.2.2.length by omega);have hxb:=h.pr x (.inl (uA hx));have hdrop:σ.2.2.drop j=x::σ.2.2.drop (j+1):=by
   rw[gL (by omega)]
   congr 1
   rw[uL (by omega)]at hx;exact Option.some.inj hx
  have h1':InvQ ST n (Zbi ST σ j) (λ y=>y=((x.toNat:Nat):Int)\/y∈σ.2.2.drop (j+1)) (λ _=>False):=by
   have hpe:∀y,y∈σ.2.2.drop j↔(y=((x.toNat:Nat):Int)\/y∈σ.2.2.drop (j+1)):=λ y=>by
    rw[hdrop,yH,show((x.toNat:Nat):Int)=x by omega]
   refine⟨h1.lenW,h1.lenB,λ u hu hb=>?_,λ u hu hr hne=>?_,λ y hy=>?_⟩
   ·rcases h1.wait u hu hb with h|h
    ·exact .inl h
    ·exact .inr ((hpe _).1 h)
   ·rcases h1.sat u hu hr hne with h|h|h
    ·exact .inl h
    ·exact .inr (.inl h)
    ·exact .inr (.inr ((hpe _).1 h))
   ·rcases hy with hy|hy
    ·exact h1.pr y (.inl hy)
    ·exact h1.pr y (.inr ((hpe _).2 hy))
  obtain⟨e1,e2,e3⟩:=Zuu hg (show x.toNat<n by omega) h1';rw[Ziu hx];rw[show((x.toNat:Nat):Int)=x by omega]at e1 e2 e3;refine⟨e1,λ u=>Ak (h2 u) (e2 u),λ y hy s hs=>?_⟩;rw[ZaD hx]at hy;rcases yN.1 hy with hy|hy
  ·have e:=h3 y hy s hs;have h0:=(hg y.toNat s hs).2.1;have:=e2 s.1.toNat;rw[lgW,lgW,show((s.1.toNat:Nat):Int)=s.1 by omega]at this;omega
  ·rw[uR.1 hy]at hs|-;have e:=e3 s hs;have:=h2 x.toNat;rw[lgW,lgW,show((x.toNat:Nat):Int)=x by omega]at this;rw[lgW,show((x.toNat:Nat):Int)=x by omega];rw[lgW,show((x.toNat:Nat):Int)=x by omega]at e;omega
theorem Zlv {σ:LS}(hg:Zcp n ST)(h:InvQ ST n σ (λ _=>False) (λ _=>False)):
  ∀k,InvQ ST n (Zav ST σ k) (λ _=>False) (λ _=>False)/\∀u:Nat,lgW σ.1 u<=lgW (Zav ST σ k).1 u:=by
 intro k
 induction k with
 |zero=>exact⟨h,λ u=>gC _⟩
 |succ k ih=>
  obtain⟨h1,h2,_⟩:=Zpl hg ih.1 _ (uH _);refine⟨⟨h1.lenW,h1.lenB,λ u hu hb=>?_,λ u hu hr hne=>?_,λ x hx=>?_⟩,λ u=>Ak (ih.2 u) (h2 u)⟩
  ·rcases h1.wait u hu hb with h|h
   ·exact .inl h
   ·simp at h
  ·rcases h1.sat u hu hr hne with h|h|h
   ·exact .inl h
   ·exact .inr (.inl h)
   ·simp at h
  ·rcases hx with hx|hx
   ·exact h1.pr x (.inl hx)
   ·exact hx.elim
theorem Zkd {n:Nat}{st:List Int}(hst:∀x∈st,0<=x/\x<(n:Int)):∀j,j<=st.length->∀v:Nat,v<n->wAt (Zdw n st j) v=if(v:Int)∈st.take j then ZcW else Zdz:=by
 intro j
 induction j with
 |zero=>intro _ v hv;simp[Zdw,wAt,hv]
 |succ j ih=>
  intro hj v hv;obtain⟨x,hx⟩:=Zad (show j<st.length by omega);have hxb:=hst x (uA hx);rw[ZqT hx,Zgo (by omega) hxb.1 (by rw[ZhH];omega),ih (by omega) v hv,ZaD hx];by_cases h:(v:Int)=x
  ·rw[if_pos h,if_pos (by rw[h];simp)]
  ·rw[if_neg h];simp[h]
theorem Zms {st:List Int}(hst:∀x∈st,0<=x/\x<(n:Int)):InvQ ST n (Zar n st) (λ _=>False) (λ _=>False):=by
 refine⟨ZhH _ _ _,by simp[Zar],λ v hv hb=>?_,λ v hv hr _=>?_,λ x hx=>?_⟩
 ·simp[Zar,bAt,hv]at hb
 ·right;left
  have:=Zkd hst st.length (uH _) v hv;rw[Rch,lgW]at hr;simp only[Zar]at hr|-;rw[this]at hr;split at hr
  ·rename_i h;rwa [uD (uH _)]at h
  ·exact absurd rfl hr
 ·rcases hx with hx|hx
  ·exact hst x hx
  ·exact hx.elim
theorem ZtX {q:Nat->Bool}:∀{m:Nat},ZbL q m=none->∀j,j<m->q j=false:=by
 intro m
 induction m with
 |zero=>intro _ j hj;omega
 |succ m ih=>
  intro h j hj;rw[ZbL]at h;cases hm:ZbL q m with
  |some i=>rw[hm]at h;simp at h
  |none=>
   rw[hm]at h;rcases uF j m with h1|h1
   ·exact ih hm j h1
   ·have:j=m:=by omega
    subst this;cases hq:q j with
    |false=>rfl
    |true=>simp[hq]at h
theorem Zpa {st:List Int}(hg:Zcp n ST)(hst:∀x∈st,0<=x/\x<(n:Int)){W:List Way}(h:ZbT n ST st=some W):
  W.length=n/\(∀v:Nat,v<n->Rch W v->∀s∈ST v,lgW W v+s.2.1<=(wAt W s.1).1)/\∀v:Nat,v<n->(v:Int)∈st->0<=lgW W v:=by
 rw[ZbT]at h;cases hk:Zhg n ST st with
 |none=>rw[hk]at h;cases h
 |some k=>
  rw[hk]at h;simp only[yV,uZ]at h;subst h;obtain⟨_,he,_⟩:=Zle hk;have h0:=Zlv hg (Zms (ST:=ST) hst) k;have hq:(Zav ST (Zar n st) k).2.2=[]:=Aj.1 he;refine⟨h0.1.lenW,λ v hv hr=>?_,λ v hv hm=>?_⟩
  ·rcases h0.1.sat v hv hr (λ h=>h)with h1|h1|h1
   ·exact h1
   ·rw[hq]at h1;simp at h1
   ·exact h1.elim
  ·have:=h0.2 v;have e:=Zkd hst st.length (uH _) v hv;rw[uD (uH _),if_pos hm]at e;have:lgW (Zar n st).1 v=0:=by rw[lgW];simp only[Zar];rw[e];rfl
   omega
end partX
section partY
variable {ST:Nat->List Stp}{S:Nat->Prop}{n:Nat}{p:Nat->Int}
theorem Zlt {c c':Nat}{W:List Way}(h:InvW ST S n c W)(hc:c<=c'):InvW ST S n c' W:=
 ⟨h.len,λ v hv=>by
  rcases h.sound v hv with h1|⟨h1,j,hj,hw⟩
  ·exact .inl h1
  ·exact .inr ⟨h1,j,by omega,hw⟩,h.starts,h.par,h.chain⟩
theorem Zma {c:Nat}{W:List Way}(hg:Zcp n ST)(h:InvW ST S n c W){v:Nat}(hv:v<n)(hr:Rch W v):-(16777216*(c:Int))<=lgW W v:=by
 obtain⟨j,hj,hw⟩:=Zj1 h hv hr;have:=Zkn hg hw;omega
theorem Zqf {c:Nat}{σ:LS}(hg:Zcp n ST)(hc:c<=34359738368)(h:InvW ST S n c σ.1){v:Nat}{s:Stp}(hv:v<n)(hr:Rch σ.1 v)(hs:s∈ST v):
  ∀u,u<n->Rch σ.1 u->Rch (Za3 v σ s).1 u:=by
 intro u hu hru;obtain⟨hvn,hs0,hsn,hsv,hl1,hl2⟩:=hg v s hs;rw[Za3];split
 ·rename_i hlt;rw[Rch,lgW];dsimp only;rw[Zgo (by omega) hs0 (by rw[h.len];omega)];split
  ·have:=Zma hg h hv hr;rw[lgW]at this;dsimp only;omega
  ·exact hru
 ·exact hru
theorem Zw1 {c:Nat}{σ:LS}(hg:Zcp n ST)(hc:c+1<=34359738368)(h:InvW ST S n c σ.1){v:Nat}{s:Stp}(hv:v<n)(hr:Rch σ.1 v)(hs:s∈ST v)
  (hq:∀x∈σ.2.2,0<=x/\x<(n:Int)/\Rch σ.1 x.toNat):∀x∈(Za3 v σ s).2.2,0<=x/\x<(n:Int)/\Rch (Za3 v σ s).1 x.toNat:=by
 intro x hx;have hrr:=Zqf hg (by omega) h hv hr hs;obtain⟨hvn,hs0,hsn,hsv,hl1,hl2⟩:=hg v s hs;by_cases hlt:(wAt σ.1 s.1).1<(wAt σ.1 v).1+s.2.1
 ·rcases hb:bAt σ.2.1 s.1 with _|_
  ·have er:Za3 v σ s=(σ.1.set s.1.toNat ((wAt σ.1 v).1+s.2.1,v,s,false),σ.2.1.set s.1.toNat true,σ.2.2++[s.1]):=by
    rw[Za3,if_pos hlt,if_neg (by rw[hb];exact zZ)]
   rw[er]at hx hrr|-;rcases yN.1 hx with hx|hx
   ·obtain⟨h1,h2,h3⟩:=hq x hx;exact⟨h1,h2,hrr _ (by omega) h3⟩
   ·rw[uR.1 hx];refine⟨hs0,hsn,?_⟩;rw[Rch,lgW];dsimp only;rw[Zgo (by omega) hs0 (by rw[h.len];omega),if_pos (by omega)];have:=Zma hg h hv hr;rw[lgW]at this;dsimp only;omega
  ·have er:Za3 v σ s=(σ.1.set s.1.toNat ((wAt σ.1 v).1+s.2.1,v,s,false),σ.2.1,σ.2.2):=by rw[Za3,if_pos hlt,if_pos hb]
   rw[er]at hx hrr|-;obtain⟨h1,h2,h3⟩:=hq x hx;exact⟨h1,h2,hrr _ (by omega) h3⟩
 ·have er:Za3 v σ s=σ:=by rw[Za3,if_neg hlt]
  rw[er]at hx|-;exact hq x hx
theorem Zuw {c:Nat}{σ:LS}(hp:Pot ST p)(hg:Zcp n ST)(hc:c+2<=34359738368)(h:InvW ST S n c σ.1){v:Nat}(hv:v<n)(hr:Rch σ.1 v)(hq:∀x∈σ.2.2,0<=x/\x<(n:Int)/\Rch σ.1 x.toNat):
  ∀i,i<=(ST v).length->InvW ST S n (c+1) (ZaZ (ST v) v σ i).1/\(∀u,u<n->Rch σ.1 u->Rch (ZaZ (ST v) v σ i).1 u)/\(∀x∈(ZaZ (ST v) v σ i).2.2,0<=x/\x<(n:Int)/\Rch (ZaZ (ST v) v σ i).1 x.toNat)/\
   lgW (ZaZ (ST v) v σ i).1 v=lgW σ.1 v:=by
 intro i
 induction i with
 |zero=>intro _;exact⟨Zlt h (by omega),λ u _ hu=>hu,hq,rfl⟩
 |succ i ih=>
  intro hi;obtain⟨h1,h2,h3,h4⟩:=ih (by omega);obtain⟨s,hs⟩:=Zad (show i<(ST v).length by omega);have hsm:=uA hs;have hrv:=h2 v hv hr;have hb:=hg v s hsm;rw[Zij hs];have hrel:=Zqf hg (by omega) h1 hv hrv hsm;have hpen:=Zw1 hg (by omega) h1 hv hrv hsm h3;refine⟨?_,λ u hu hru=>hrel u hu (h2 u hu hru),hpen,?_⟩
  ·obtain⟨j,hj,hw⟩:=Zj1 h hv hr;rw[<-h4]at hw;by_cases hlt:(wAt (ZaZ (ST v) v σ i).1 s.1).1<(wAt (ZaZ (ST v) v σ i).1 v).1+s.2.1
   ·have:=ZwY hp hg (by omega) h1 hv hrv ⟨j,hj,hw⟩ hsm hlt;rw[Za3,if_pos hlt];exact this
   ·rw[Za3,if_neg hlt];exact h1
  ·rw[<-h4,Za3];split
   ·rw[lgW,lgW];dsimp only;rw[Zgo (by omega) hb.2.1 (by rw[h1.len];omega),if_neg (by omega)]
   ·rfl
theorem Zvh {c:Nat}{σ:LS}(hp:Pot ST p)(hg:Zcp n ST)(hc:c+σ.2.2.length+2<=34359738368)(h:InvW ST S n c σ.1)(hq:∀x∈σ.2.2,0<=x/\x<(n:Int)/\Rch σ.1 x.toNat):
  ∀j,j<=σ.2.2.length->InvW ST S n (c+j) (Zbi ST σ j).1/\(∀u,u<n->Rch σ.1 u->Rch (Zbi ST σ j).1 u)/\(∀x∈(Zbi ST σ j).2.2,0<=x/\x<(n:Int)/\Rch (Zbi ST σ j).1 x.toNat):=by
 intro j
 induction j with
 |zero=>intro _;exact⟨h,λ u _ hu=>hu,by simp[Zbi]⟩
 |succ j ih=>
  intro hj;obtain⟨h1,h2,h3⟩:=ih (by omega);obtain⟨x,hx⟩:=Zad (show j<σ.2.2.length by omega);obtain⟨hx0,hxn,hxr⟩:=hq x (uA hx);obtain⟨e1,e2,e3,_⟩:=Zuw hp hg (by omega) h1 (v:=x.toNat) (by omega) (h2 _ (by omega) hxr) h3 _ (uH _);rw[Ziu hx];rw[show((x.toNat:Nat):Int)=x by omega]at e1 e2 e3;exact⟨by rw[<-jL];exact e1,λ u hu hru=>e2 u hu (h2 u hu hru),e3⟩
theorem ZyV {st:List Int}(hst:∀x∈st,0<=x/\x<(n:Int)):InvW ST (λ v=>(v:Int)∈st) n 0 (Zar n st).1/\∀x∈(Zar n st).2.2,0<=x/\x<(n:Int)/\Rch (Zar n st).1 x.toNat:=by
 have hat:=Zkd hst st.length (uH _);rw[uD (uH _)]at hat;have hin:∀v:Nat,v<n->(v:Int)∈st->wAt (Zar n st).1 v=ZcW:=λ v hv hm=>by simp only[Zar];rw[hat v hv,if_pos hm]
 have hout:∀v:Nat,v<n->¬(v:Int)∈st->wAt (Zar n st).1 v=Zdz:=λ v hv hm=>by simp only[Zar];rw[hat v hv,if_neg hm]
 have hrin:∀v:Nat,v<n->(v:Int)∈st->Rch (Zar n st).1 v:=λ v hv hm=>by rw[Rch,lgW,hin v hv hm];simp[ZcW]
 have hrout:∀v:Nat,v<n->Rch (Zar n st).1 v->(v:Int)∈st:=λ v hv hr=>by
  by_cases hm:(v:Int)∈st
  ·exact hm
  ·rw[Rch,lgW,hout v hv hm]at hr;exact absurd rfl hr
 refine⟨⟨ZhH _ _ _,λ v hv=>?_,λ v hv=>?_,λ v hv hr=>?_,λ v hv hr=>?_⟩,λ x hx=>?_⟩
 ·by_cases hm:(v:Int)∈st
  ·right
   refine⟨hrin v hv hm,0,uH _,?_⟩;rw[lgW,hin v hv hm];exact .start v hm
  ·left;exact hout v hv hm
 ·have:=hst _ hv;refine⟨by omega,?_⟩;rw[lgW,hin v (by omega) hv];simp[ZcW]
 ·have hm:=hrout v hv hr;exact .inl ⟨hin v hv hm,hm⟩
 ·have hm:=hrout v hv hr;refine⟨0,?_,λ j hj=>by omega⟩;show(wAt (Zar n st).1 (v:Int)).2.2.2=true;rw[hin v hv hm];rfl
 ·have hb:=hst x hx;exact⟨hb.1,hb.2,hrin x.toNat (by omega) (by rw[show((x.toNat:Nat):Int)=x by omega];exact hx)⟩
theorem Zue (hg:Zcp n ST):∀v:Nat,v<n->Zgs n v (ST v):=λ v _ s hs=>by
 have:=hg v s hs;exact⟨this.2.1,this.2.2.1,this.2.2.2.1,this.2.2.2.2.1,this.2.2.2.2.2⟩
section search
variable {st:List Int}(hp:Pot ST p)(hg:Zcp n ST)(hn:n<=2048)(hst:∀x∈st,0<=x/\x<(n:Int))(hsl:st.length<=n)
include hp hg hn hst hsl
theorem Zlw :∀k,k<=n+1->InvW ST (λ v=>(v:Int)∈st) n (4198400*k) (Zav ST (Zar n st) k).1/\∀x∈(Zav ST (Zar n st) k).2.2,0<=x/\x<(n:Int)/\Rch (Zav ST (Zar n st) k).1 x.toNat:=by
 intro k
 induction k with
 |zero=>intro _;exact ZyV hst
 |succ k ih=>
  intro hk;obtain⟨h1,h2⟩:=ih (by omega);have hq:=(ZoV hn (ZqU hst) hsl (Zue hg) k (by omega)).2;have:n*(k+1)<=2048*2050:=zF hn (by omega);obtain⟨e1,_,e3⟩:=Zvh hp hg (by omega) h1 h2 _ (uH _);exact⟨Zlt e1 (by omega),e3⟩
theorem ZuJ :∀k,k<=n+1->∀j v d,j<=k->Wk ST (λ v=>(v:Int)∈st) j v d->Rch (Zav ST (Zar n st) k).1 v/\d<=lgW (Zav ST (Zar n st) k).1 v:=by
 have hS:∀v:Nat,(v:Int)∈st->v<n:=λ v hv=>by have:=hst _ hv;omega
 intro k
 induction k with
 |zero=>
  intro _ j v d hj hw;have hj0:j=0:=by omega
  subst hj0;cases hw with
  |start _ h=>
   have hv:=hS v h;have e:=Zkd hst st.length (uH _) v hv;rw[uD (uH _),if_pos h]at e;rw[Rch,lgW];simp only[Zav,Zar];rw[e];simp[ZcW]
 |succ k ih=>
  intro hk j v d hj hw;have hvn:=ZiW hg hS hw;have hbd:=Zkn hg hw;obtain⟨hw1,hw2⟩:=Zlw hp hg hn hst hsl k (by omega);have hq:=(Zlv hg (Zms (ST:=ST) hst) k).1;obtain⟨q1,q2,q3⟩:=Zpl hg hq _ (uH _);have key:d<=lgW (Zav ST (Zar n st) (k+1)).1 v->Rch (Zav ST (Zar n st) (k+1)).1 v/\d<=lgW (Zav ST (Zar n st) (k+1)).1 v:=λ h=>
   ⟨by rw[Rch];omega,h⟩
  rcases uF k j with hkj|hkj
  ·have hj1:j=k+1:=by omega
   subst hj1;cases hw with
   |step _ u d0 s hu hs=>
    have hun:=ZiW hg hS hu;have hs0:=(hg u s hs).2.1;obtain⟨i1,i2⟩:=ih (by omega) k u d0 (uH _) hu;refine key ?_;have e:((s.1.toNat:Nat):Int)=s.1:=by omega
    rw[lgW,e];have hm:=q2 s.1.toNat;rw[lgW,lgW,e]at hm;have hmid:Zav ST (Zar n st) (k+1)=Zbi ST (Zav ST (Zar n st) k) (Zav ST (Zar n st) k).2.2.length:=rfl;rw[hmid];rcases hq.sat u hun i1 (λ h=>h)with h1|h1|h1
    ·have:=h1 s hs;omega
    ·rw[uD (uH _)]at q3;have:=q3 u h1 s (by rw[uQ];exact hs);rw[uQ]at this;omega
    ·exact h1.elim
  ·obtain⟨i1,i2⟩:=ih (by omega) j v d hkj hw;exact key (Ak i2 (q2 v))
theorem ZqC :∃W,ZbT n ST st=some W/\InvW ST (λ v=>(v:Int)∈st) n 8606720000 W/\(∀v d,Opt ST (λ v=>(v:Int)∈st) v d->Rch W v/\lgW W v=d)/\
  (∀v:Nat,v<n->Rch W v->Opt ST (λ v=>(v:Int)∈st) v (lgW W v)/\∀s∈ST v,lgW W v+s.2.1<=(wAt W s.1).1):=by
 have hS:∀v:Nat,(v:Int)∈st->v<n:=λ v hv=>by have:=hst _ hv;omega
 obtain⟨lo,hlo⟩:∃lo:Int,∀v:Nat,(v:Int)∈st->lo<=p v:=by
  have:∀m:Nat,∃lo:Int,∀v:Nat,v<m->lo<=p v:=by
   intro m
   induction m with
   |zero=>exact⟨0,λ v hv=>by omega⟩
   |succ m ih=>
    obtain⟨lo,h⟩:=ih;refine⟨min lo (p m),λ v hv=>?_⟩;rcases uF v m with h1|h1
    ·have:=h v h1;omega
    ·have:v=m:=by omega
     subst this;omega
  obtain⟨lo,h⟩:=this n;exact⟨lo,λ v hv=>h v (hS v hv)⟩
 have hsome:∃k,Zhg n ST st=some k:=by
  cases he:Zhg n ST st with
  |some k=>exact⟨k,rfl⟩
  |none=>
   exfalso;have hall:=ZtX he;rcases qT n with h0|hpos
   ·have h1:=hall 0 (by omega);have:st=[]:=by
     cases st with
     |nil=>rfl
     |cons x l=>have:=hst x (by simp);omega
    subst this;simp[Zav,Zar]at h1
   ·obtain⟨k,hk⟩:∃k,n=k+1:=⟨n-1,by omega⟩;have hprog:=ZuJ hp hg hn hst hsl k (by omega);obtain⟨hw1,hw2⟩:=Zlw hp hg hn hst hsl k (by omega);have hq:=(Zlv hg (Zms (ST:=ST) hst) k).1;have hopt:∀v d,Opt ST (λ v=>(v:Int)∈st) v d->d<=lgW (Zav ST (Zar n st) k).1 v:=λ v d h=>by
     obtain⟨i,hi,hw⟩:=ZpE hg hS h;exact(hprog i v d (by omega) hw).2
    have hsat:∀v:Nat,v<n->Rch (Zav ST (Zar n st) k).1 v->∀s∈ST v,lgW (Zav ST (Zar n st) k).1 v+s.2.1<=(wAt (Zav ST (Zar n st) k).1 s.1).1:=by
     intro v hv hr s hs;obtain⟨j,_,hw⟩:=Zj1 hw1 hv hr;have h1:=Wk.step j v _ s hw hs;obtain⟨d',hd'⟩:=ZpD hp hlo h1;have:=hopt _ _ hd';have h2:=hd'.2 _ _ h1;rw[lgW,show((s.1.toNat:Nat):Int)=s.1 by have:=(hg v s hs).2.1;omega]at this;omega
    have hquiet:∀j,j<=(Zav ST (Zar n st) k).2.2.length->(Zbi ST (Zav ST (Zar n st) k) j).1=(Zav ST (Zar n st) k).1/\(Zbi ST (Zav ST (Zar n st) k) j).2.2=[]:=by
     intro j
     induction j with
     |zero=>intro _;exact⟨rfl,rfl⟩
     |succ j ih=>
      intro hj;obtain⟨e1,e2⟩:=ih (by omega);obtain⟨x,hx⟩:=Zad (show j<(Zav ST (Zar n st) k).2.2.length by omega);obtain⟨hx0,hxn,hxr⟩:=hw2 x (uA hx);rw[Ziu hx];have hin:∀i,i<=(ST x.toNat).length->(ZaZ (ST x.toNat) x (Zbi ST (Zav ST (Zar n st) k) j) i).1=(Zav ST (Zar n st) k).1/\(ZaZ (ST x.toNat) x (Zbi ST (Zav ST (Zar n st) k) j) i).2.2=[]:=by
       intro i
       induction i with
       |zero=>intro _;exact⟨e1,e2⟩
       |succ i ih2=>
        intro hi;obtain⟨f1,f2⟩:=ih2 (by omega);obtain⟨s,hs⟩:=Zad (show i<(ST x.toNat).length by omega);have:=hsat x.toNat (by omega) hxr s (uA hs);rw[lgW,show((x.toNat:Nat):Int)=x by omega]at this;rw[Zij hs,Za3,f1,if_neg (by omega)];exact⟨f1,f2⟩
      exact hin _ (uH _)
    have h1:=hall n (by omega);have:(Zav ST (Zar n st) n).2.2=[]:=by
     subst hk;exact(hquiet _ (uH _)).2
    rw[this]at h1;cases h1
 obtain⟨k,hk⟩:=hsome;have hW:ZbT n ST st=some (Zav ST (Zar n st) k).1:=by rw[ZbT,hk];rfl
 have hkn:=(Zle hk).1;have hwn:=(Zlw hp hg hn hst hsl k (by omega)).1;obtain⟨l1,l2,l3⟩:=Zpa hg hst hW;have hwalk:∀j v d,Wk ST (λ v=>(v:Int)∈st) j v d->Rch (Zav ST (Zar n st) k).1 v/\d<=lgW (Zav ST (Zar n st) k).1 v:=by
  intro j v d hw
  induction hw with
  |start v h=>
   have hv:=hS v h;have:=l3 v hv h;exact⟨by rw[Rch];omega,this⟩
  |step j v d s hw hs ih=>
   have hvn:=ZiW hg hS hw;have hb:=hg v s hs;have:=l2 v hvn ih.1 s hs;have hlow:=Zma hg hwn hvn ih.1;have e:lgW (Zav ST (Zar n st) k).1 s.1.toNat=(wAt (Zav ST (Zar n st) k).1 s.1).1:=by rw[lgW,show((s.1.toNat:Nat):Int)=s.1 by omega]
   rw[Rch,e];have hk2:(4198400*k:Nat)<=8606720000:=by omega
   exact⟨by omega,by omega⟩
 have hop:∀v:Nat,v<n->Rch (Zav ST (Zar n st) k).1 v->Opt ST (λ v=>(v:Int)∈st) v (lgW (Zav ST (Zar n st) k).1 v):=λ v hv hr=>by
  obtain⟨j,_,hw⟩:=Zj1 hwn hv hr;exact⟨⟨j,hw⟩,λ j d hw=>(hwalk j v d hw).2⟩
 refine⟨_,hW,Zlt hwn (by omega),λ v d h=>?_,λ v hv hr=>⟨hop v hv hr,l2 v hv hr⟩⟩;obtain⟨j,hw⟩:=h.1;obtain⟨r1,r2⟩:=hwalk j v d hw;exact⟨r1,ZlV (hop v (ZiW hg hS hw) r1) h⟩
end search
end partY
section partZ
theorem Zpk {α:Type}{g:Nat->List α}{x:α}:∀{n:Nat},x∈Zbm g n↔∃k,k<n/\x∈g k:=by
 intro n
 induction n with
 |zero=>simp[Zbm]
 |succ n ih=>
  simp only[Zbm,yN,ih];constructor
  ·rintro(⟨k,hk,h⟩|h)
   ·exact⟨k,by omega,h⟩
   ·exact⟨n,by omega,h⟩
  ·rintro⟨k,hk,h⟩;rcases uF k n with h1|h1
   ·exact .inl ⟨k,h1,h⟩
   ·have:k=n:=by omega
    subst this;exact .inr h
theorem Zfn {l:List Bd}{f:List Int}{v:Nat}{s:Stp}:s∈Zas l f v↔∃(k:Nat) (b:Bd),l[k]? =some b/\((b.1=v/\s=(b.2.1,b.2.2.1,(k:Int),false))\/(0<at0 f k/\b.2.1=v/\s=(b.1,-b.2.2.1,(k:Int),true))):=by
 rw[Zas,Zej,Zpk];constructor
 ·rintro⟨k,hk,h⟩;obtain⟨b,hb⟩:=Zad hk;refine⟨k,b,hb,?_⟩;simp only[ZgW,hb,yN]at h;rcases h with h|h
  ·split at h
   ·rename_i h1;exact .inl ⟨h1,uR.1 h⟩
   ·simp at h
  ·split at h
   ·rename_i h1;exact .inr ⟨h1.1,h1.2,uR.1 h⟩
   ·simp at h
 ·rintro⟨k,b,hb,h⟩;refine⟨k,(uB.1 hb).1,?_⟩;simp only[ZgW,hb,yN];rcases h with⟨h1,rfl⟩|⟨h1,h2,rfl⟩
  ·left;rw[if_pos h1];simp
  ·right;rw[if_pos ⟨h1,h2⟩];simp
def ZfC (n:Nat)(l:List Bd):Prop:=∀(k:Nat) b,l[k]? =some b->0<=b.1/\b.1<(n:Int)/\0<=b.2.1/\b.2.1<(n:Int)/\b.1≠b.2.1/\-16777216<=b.2.2.1/\b.2.2.1<=16777216/\0<=b.2.2.2/\b.2.2.2<=8000
theorem Znu {n:Nat}{l:List Bd}(h:nOk ((n:Int),l)=true):ZfC n l/\n<=2048/\l.length<=4096:=by
 obtain⟨h1,h2,h3,h4⟩:=ZgN h;dsimp only at h1 h2 h3 h4;exact⟨h4,by omega,h3⟩
theorem Zmt {n:Nat}{l:List Bd}{f:List Int}(hb:ZfC n l):Zcp n (Zas l f):=by
 intro v s hs;obtain⟨k,b,hk,h⟩:=Zfn.1 hs;have:=hb k b hk;rcases h with⟨h1,rfl⟩|⟨h1,h2,rfl⟩<;>dsimp only<;>omega
def PotB (l:List Bd)(f:List Int)(p:Nat->Int):Prop:=∀(k:Nat) b,l[k]? =some b->p b.1.toNat+b.2.2.1<=p b.2.1.toNat/\(0<at0 f k->p b.2.1.toNat<=p b.1.toNat+b.2.2.1)
theorem ZjY {n:Nat}{l:List Bd}{f:List Int}{p:Nat->Int}(hb:ZfC n l):Pot (Zas l f) p↔PotB l f p:=by
 constructor
 ·intro h k b hk;have hbk:=hb k b hk;refine⟨h b.1.toNat (b.2.1,b.2.2.1,(k:Int),false) (Zfn.2 ⟨k,b,hk, .inl ⟨by omega,rfl⟩⟩),λ hf=>?_⟩;have:=h b.2.1.toNat (b.1,-b.2.2.1,(k:Int),true) (Zfn.2 ⟨k,b,hk, .inr ⟨hf,by omega,rfl⟩⟩);dsimp only at this;omega
 ·intro h v s hs;obtain⟨k,b,hk,h1⟩:=Zfn.1 hs;have hbk:=hb k b hk;obtain⟨e1,e2⟩:=h k b hk;rcases h1 with⟨h1,rfl⟩|⟨h1,h2,rfl⟩
  ·dsimp only;rw[show v=b.1.toNat by omega];exact e1
  ·have:=e2 h1;dsimp only;rw[show v=b.2.1.toNat by omega];omega
abbrev ZmY (n:Nat):Nat->Prop:=λ v=>(v:Int)∈ZbQ n
theorem Zpj {n v:Nat}:(v:Int)∈ZbQ n↔v<n:=by
 rw[ZbQ,uN];constructor
 ·rintro⟨u,hu,h⟩;have:=yD.1 hu;omega
 ·intro h;exact⟨v,yD.2 h,rfl⟩
theorem Zwv {n:Nat}{l:List Bd}{f:List Int}(hb:ZfC n l){W:List Way}(h:ZbT n (Zas l f) (ZbQ n)=some W):Pot (Zas l f) (lgW W):=by
 have hg:=Zmt (f:=f) hb;obtain⟨_,h1,h2⟩:=Zpa hg (Zi9 n).1 h;intro v s hs;have hv:=hg v s hs;have h3:=h2 v hv.1 (Zpj.2 hv.1);have:=h1 v hv.1 (by rw[Rch];omega) s hs;rw[lgW,lgW,show((s.1.toNat:Nat):Int)=s.1 by omega];exact this
theorem Zo9 {n:Nat}{l:List Bd}{f:List Int}{p:Nat->Int}(hb:ZfC n l)(hn:n<=2048)(hp:Pot (Zas l f) p):
  ∃W,ZbT n (Zas l f) (ZbQ n)=some W/\W.length=n/\∀v,v<n->Opt (Zas l f) (ZmY n) v (lgW W v):=by
 obtain⟨a1,a2⟩:=Zi9 n;obtain⟨W,h1,h2,h3,h4⟩:=ZqC hp (Zmt hb) hn a1 (by omega);refine⟨W,h1,h2.len,λ v hv=>(h4 v hv ?_).1⟩;have:=(h2.starts v (Zpj.2 hv)).2;rw[Rch];omega
end partZ
section partZa
theorem ZhJ {g h:Nat->Int}:∀{n:Nat},(∀v,v<n->g v=h v)->ZaL g n=ZaL h n
 |0,_=>rfl
 |n+1,e=>by rw[ZcU,ZcU,e n (by omega),ZhJ λ v hv=>e v (by omega)]
theorem Zkf (g h:Nat->Int):∀n,ZaL (λ v=>g v+h v) n=ZaL g n+ZaL h n
 |0=>rfl
 |n+1=>by rw[ZcU,ZcU,ZcU,Zkf g h n];omega
theorem ZmC (g:Nat->Int):∀n,ZaL (λ v=>-(g v)) n=-(ZaL g n)
 |0=>rfl
 |n+1=>by rw[ZcU,ZcU,ZmC g n];omega
theorem ZgX :∀n,ZaL (λ _=>0) n=0
 |0=>rfl
 |n+1=>by rw[ZcU,ZgX n];rfl
theorem Zkg (i:Nat)(x:Int):∀n,ZaL (λ v=>if i=v then x else 0) n=if i<n then x else 0
 |0=>by simp[ZaL]
 |n+1=>by
  rw[ZcU,Zkg i x n];by_cases h:i=n
  ·rw[if_neg (by omega),if_pos h,if_pos (by omega)];omega
  ·rw[if_neg h];by_cases h2:i<n
   ·rw[if_pos h2,if_pos (by omega)];omega
   ·rw[if_neg h2,if_neg (by omega)];omega
theorem Zkh {g h:Nat->Int}:∀{n:Nat},(∀v,v<n->g v<=h v)->ZaL g n<=ZaL h n
 |0,_=>gC _
 |n+1,e=>by
  rw[ZcU,ZcU];have:=Zkh (n:=n) λ v hv=>e v (by omega)
  have:=e n (by omega);omega
theorem ZmB {g h:Nat->Int}{i:Nat}:∀{n:Nat},(∀v,v<n->g v<=h v)->i<n->g i<h i->ZaL g n<ZaL h n
 |0,_,hi,_=>by omega
 |n+1,e,hi,hl=>by
  rw[ZcU,ZcU];rcases uF i n with h1|h1
  ·have:=ZmB (n:=n) (λ v hv=>e v (by omega)) h1 hl;have:=e n (by omega);omega
  ·have:i=n:=by omega
   subst this;have:=Zkh (n:=i) λ v hv=>e v (by omega)
   omega
theorem Zq3 {g h:Nat->Int}{n i:Nat}{x:Int}(hi:i<n)(e:∀v,v<n->h v=g v+if i=v then x else 0):ZaL h n=ZaL g n+x:=by
 rw[ZhJ e,Zkf,Zkg,if_pos hi]
abbrev Zc1 (l:List Bd)(f:List Int)(v:Int):Int:=ZaL (ZdY l f v) l.length
def ZgB (l:List Bd)(f:List Int)(R:Nat->Bool)(k:Nat):Int:=match l[k]? with|some b=>(if R b.2.1.toNat then at0 f k-b.2.2.2 else 0)-(if R b.1.toNat then at0 f k-b.2.2.2 else 0)|none=>0
theorem ZqF {n:Nat}{l:List Bd}{f:List Int}(hb:ZfC n l)(hfl:f.length=l.length)(R:Nat->Bool):∀m,m<=l.length->
  ZaL (λ v=>if R v then ZaL (ZdY l f v) m else 0) n=ZaL (ZgB l f R) m:=by
 intro m
 induction m with
 |zero=>intro _;simp only[ZaL];rw[ZhJ (h:=λ _=>0) (λ v _=>by split<;>rfl),ZgX]
 |succ m ih=>
  intro hm;obtain⟨b,hbm⟩:=Zad (show m<l.length by omega);obtain⟨x,hx⟩:=Zad (show m<f.length by omega);have hbb:=hb m b hbm;have hx0:at0 f m=x:=by rw[at0,uQ,hx];rfl
  rw[ZcU,<-ih (by omega),ZgB,hbm];dsimp only;have e:∀v,v<n->(if R v then ZaL (ZdY l f v) (m+1)else 0)=(if R v then ZaL (ZdY l f v) m else 0)+((if b.2.1.toNat=v then(if R b.2.1.toNat then x-b.2.2.2 else 0)else 0)+-(if b.1.toNat=v then(if R b.1.toNat then x-b.2.2.2 else 0)else 0)):=by
   intro v hv;have ea:ZdY l f v m=(if b.2.1=(v:Int)then x-b.2.2.2 else 0)-(if b.1=(v:Int)then x-b.2.2.2 else 0):=by simp[ZdY,hbm,hx]
   rw[ZcU,ea];by_cases c1:b.2.1.toNat=v
   ·have c2:¬b.1.toNat=v:=by omega
    rw[if_pos c1,if_neg c2,if_pos (show b.2.1=(v:Int) by omega),if_neg (show¬b.1=(v:Int) by omega),c1];split<;>omega
   ·rw[if_neg c1,if_neg (show¬b.2.1=(v:Int) by omega)];by_cases c2:b.1.toNat=v
    ·rw[if_pos c2,if_pos (show b.1=(v:Int) by omega),c2];split<;>omega
    ·rw[if_neg c2,if_neg (show¬b.1=(v:Int) by omega)];split<;>omega
  rw[ZhJ e,Zkf,Zkf,ZmC,Zkg,Zkg,if_pos (show b.2.1.toNat<n by omega),if_pos (show b.1.toNat<n by omega),hx0];omega
theorem Zts {l:List Bd}{f:List Int}{i:Nat}{b:Bd}{x v:Int}(hfl:f.length=l.length)(hb:l[i]? =some b):
  Zc1 l (f.set i (at0 f i+x)) v=Zc1 l f v+((if b.2.1=v then x else 0)-(if b.1=v then x else 0)):=by
 have hil:=(uB.1 hb).1;obtain⟨y,hy⟩:=Zad (show i<f.length by omega);have hy0:at0 f i=y:=by rw[at0,uQ,hy];rfl
 refine Zq3 (i:=i) hil λ k hk=>?_
 obtain⟨c,hc⟩:=Zad hk;obtain⟨z,hz⟩:=Zad (show k<f.length by omega);by_cases h:i=k
 ·subst h;rw[hb]at hc;cases hc;have e1:(f.set i (at0 f i+x))[i]? =some (y+x):=by rw[kW (by omega),hy0]
  simp only[ZdY,hb,hy,e1,if_true];split<;>split<;>omega
 ·have e1:(f.set i (at0 f i+x))[k]? =some z:=by rw[kL h,hz]
  simp only[ZdY,hc,hz,e1];rw[if_neg h,jU]
theorem Zwk (W:List Way)(nd:List Int):∀k,(ZaK W nd k<0->∀u,u<k->¬(0<at0 nd u/\-576460752303423488<lgW W u))/\(0<=ZaK W nd k->0<at0 nd (ZaK W nd k)/\-576460752303423488<(wAt W (ZaK W nd k)).1):=by
 intro k
 induction k with
 |zero=>exact⟨λ _ u hu=>by omega,λ h=>by simp[ZaK]at h⟩
 |succ k ih=>
  rw[ZaK];split
  ·rename_i h;exact⟨λ h=>by omega,λ _=>⟨h.1,h.2.1⟩⟩
  ·rename_i h;refine⟨λ hn u hu hc=>?_,ih.2⟩;rcases uF u k with h1|h1
   ·exact ih.1 hn u h1 hc
   ·have:u=k:=by omega
    subst this;exact h ⟨hc.1,hc.2, .inl hn⟩
theorem Zit {nd:List Int}{v:Nat}:∀{n:Nat},(v:Int)∈ZbG nd n↔v<n/\at0 nd v<0:=by
 intro n;rw[ZbG,Zpk];constructor
 ·rintro⟨k,hk,h⟩;rw[ZfU]at h;split at h
  ·rename_i hn;have:=uR.1 h;have:v=k:=by omega
   subst this;exact⟨hk,hn⟩
  ·simp at h
 ·rintro⟨h1,h2⟩;exact⟨v,h1,by rw[ZfU,if_pos h2];simp⟩
theorem ZtY {q:Nat->Bool}{k m:Nat}(hk:k<m)(h1:∀j,j<k->q j=false)(h2:q k=true):ZbL q m=some k:=by
 refine Zor hk ?_ h2;have:∀i,i<=k->ZbL q i=none:=by
  intro i
  induction i with
  |zero=>intro _;rfl
  |succ i ih=>intro hi;exact Zos (ih (by omega)) (h1 i (by omega))
 exact this k (uH _)
theorem Zvm (W:List Way)(f:List Int)(m0 v:Int):∀k,ZcE W f m0 v k<=m0/\∀j,j<k->(ZaI W v j).2.2.2=true->ZcE W f m0 v k<=at0 f (ZaI W v j).2.2.1:=by
 intro k
 induction k with
 |zero=>exact⟨gC _,λ j hj=>by omega⟩
 |succ k ih=>
  rw[ZlI];refine⟨?_,λ j hj hb=>?_⟩
  ·split<;>omega
  ·rcases uF j k with h1|h1
   ·have:=ih.2 j h1 hb;split<;>omega
   ·have:j=k:=by omega
    subst this;rw[if_pos hb];omega
theorem Zvn {W:List Way}{f:List Int}{m0 v:Int}(h0:0<m0):∀k,(∀j,j<k->(ZaI W v j).2.2.2=true->0<at0 f (ZaI W v j).2.2.1)->0<ZcE W f m0 v k:=by
 intro k
 induction k with
 |zero=>intro _;exact h0
 |succ k ih=>
  intro h;rw[ZlI];have:=ih λ j hj=>h j (by omega)
  split
  ·rename_i hb;have:=h k (by omega) hb;omega
  ·exact this
section sent
variable {n K:Nat}{l:List Bd}{f:List Int}{W:List Way}{t m:Int}
structure ChainOk (n:Nat)(l:List Bd)(f:List Int)(W:List Way)(t:Int)(K:Nat):Prop where
 step:∀j,j<K->∃(k:Nat) (b:Bd),l[k]? =some b/\(ZaI W t j).2.2.1=k/\(((ZaI W t j).2.2.2=false/\b.1=Zao W t (j+1)/\b.2.1=Zao W t j)\/((ZaI W t j).2.2.2=true/\0<at0 f k/\b.2.1=Zao W t (j+1)/\b.1=Zao W t j))
 inj:∀i j,i<j->j<K->Zao W t i≠Zao W t j
variable (hc:ChainOk n l f W t K)(hfl:f.length=l.length)
include hc hfl
theorem ZqE {k:Nat}(hk:k<K)(b:Nat):at0 (Zbw W f m t (k+1)) b=at0 (Zbw W f m t k) b+(if(ZaI W t k).2.2.1=b then(if(ZaI W t k).2.2.2 then -m else m)else 0):=by
 obtain⟨i,bd,hi,he,_⟩:=hc.step k hk;have hil:=(uB.1 hi).1;rw[Zmm,he,uQ,Zgv _ _ _ _ (by omega)];by_cases h:i=b
 ·subst h;rw[if_pos ⟨rfl,by rw[ZgU,hfl];exact hil⟩,if_pos rfl]
 ·rw[if_neg (by omega),if_neg (by omega),jU]
theorem ZxY (hm:0<=m):∀k,k<=K->∀b:Nat,((∀j,j<k->¬((ZaI W t j).2.2.2=true/\(ZaI W t j).2.2.1=b))->at0 f b<=at0 (Zbw W f m t k) b)/\at0 f b-m<=at0 (Zbw W f m t k) b:=by
 intro k
 induction k with
 |zero=>intro _ b;exact⟨λ _=>gC _,by show at0 f b-m<=at0 f b;omega⟩
 |succ k ih=>
  intro hk b;obtain⟨i1,i2⟩:=ih (by omega) b;rw[ZqE hc hfl (by omega)];refine⟨λ h=>?_,?_⟩
  ·have:=i1 λ j hj=>h j (by omega)
   split
   ·rename_i he;split
    ·rename_i hb;exact absurd ⟨hb,he⟩ (h k (by omega))
    ·omega
   ·omega
  ·split
   ·rename_i he;split
    ·rename_i hb;have:at0 f b<=at0 (Zbw W f m t k) b:=i1 λ j hj ⟨hbj,hej⟩=>by
      obtain⟨x,bx,hx,ex,hxx⟩:=hc.step j (by omega);obtain⟨y,by_,hy,ey,hyy⟩:=hc.step k (by omega);have:x=y:=by omega
      subst this;rw[hx]at hy;cases hy;rcases hxx with⟨h1,_⟩|⟨_,_,_,h1⟩
      ·rw[h1]at hbj;cases hbj
      ·rcases hyy with⟨h2,_⟩|⟨_,_,_,h2⟩
       ·rw[h2]at hb;cases hb
       ·exact hc.inj j k hj (by omega) (by rw[<-h1,<-h2])
     omega
    ·omega
   ·omega
theorem ZxZ (hm:0<=m):∀k,k<=K->∀b:Nat,((∀j,j<k->¬((ZaI W t j).2.2.2=false/\(ZaI W t j).2.2.1=b))->at0 (Zbw W f m t k) b<=at0 f b)/\at0 (Zbw W f m t k) b<=at0 f b+m:=by
 intro k
 induction k with
 |zero=>intro _ b;exact⟨λ _=>gC _,by show at0 f b<=at0 f b+m;omega⟩
 |succ k ih=>
  intro hk b;obtain⟨i1,i2⟩:=ih (by omega) b;rw[ZqE hc hfl (by omega)];refine⟨λ h=>?_,?_⟩
  ·have:=i1 λ j hj=>h j (by omega)
   split
   ·rename_i he;split
    ·omega
    ·rename_i hb;exact absurd ⟨by simpa using hb,he⟩ (h k (by omega))
   ·omega
  ·split
   ·rename_i he;split
    ·omega
    ·rename_i hb;have hb:(ZaI W t k).2.2.2=false:=by simpa using hb
     have:at0 (Zbw W f m t k) b<=at0 f b:=i1 λ j hj ⟨hbj,hej⟩=>by
      obtain⟨x,bx,hx,ex,hxx⟩:=hc.step j (by omega);obtain⟨y,by_,hy,ey,hyy⟩:=hc.step k (by omega);have:x=y:=by omega
      subst this;rw[hx]at hy;cases hy;rcases hxx with⟨_,_,h1⟩|⟨h1,_⟩
      ·rcases hyy with⟨_,_,h2⟩|⟨h2,_⟩
       ·exact hc.inj j k hj (by omega) (by rw[<-h1,<-h2])
       ·rw[h2]at hb;cases hb
      ·rw[h1]at hbj;cases hbj
     omega
   ·omega
theorem ZxX (v:Int):∀k,k<=K->Zc1 l (Zbw W f m t k) v=Zc1 l f v+((if t=v then m else 0)-(if Zao W t k=v then m else 0)):=by
 intro k
 induction k with
 |zero=>intro _;show Zc1 l f v=Zc1 l f v+((if t=v then m else 0)-(if t=v then m else 0));omega
 |succ k ih=>
  intro hk;obtain⟨i,b,hi,he,h⟩:=hc.step k (by omega);rw[Zmm,he,uQ,Zts (by rw[ZgU,hfl]) hi,ih (by omega)];rcases h with⟨h1,h2,h3⟩|⟨h1,_,h2,h3⟩
  ·rw[show(if(ZaI W t k).2.2.2=true then -m else m)=m by rw[h1];rfl,h2,h3];omega
  ·rw[show(if(ZaI W t k).2.2.2=true then -m else m)=-m by rw[h1];rfl,h2,h3];split<;>split<;>split<;>omega
end sent
end partZa
section partZb
instance rchDec (W:List Way)(v:Nat):Decidable (Rch W v):=inferInstanceAs (Decidable (lgW W v≠-1152921504606846976))
theorem ZpZ (p:Nat->Int):∀m:Nat,∃lo:Int,∀v:Nat,v<m->lo<=p v:=by
 intro m
 induction m with
 |zero=>exact⟨0,λ v hv=>by omega⟩
 |succ m ih=>
  obtain⟨lo,h⟩:=ih;refine⟨min lo (p m),λ v hv=>?_⟩;rcases uF v m with h1|h1
  ·have:=h v h1;omega
  ·have:v=m:=by omega
   subst this;omega
theorem Zwu (p:Nat->Int):∀m:Nat,∃hi:Int,∀v:Nat,v<m->p v<=hi:=by
 intro m;obtain⟨lo,h⟩:=ZpZ (λ v=>-(p v)) m;exact⟨-lo,λ v hv=>by have:=h v hv;omega⟩
def Zfu (nd:List Int)(n:Nat):Int:=ZaL (λ v=>max 0 (at0 nd v)) n
theorem ZjX (nd:List Int)(n:Nat):0<=Zfu nd n:=by
 have:=Zkh (g:=λ _=>0) (h:=λ v:Nat=>max 0 (at0 nd v)) (n:=n) λ v _=>by omega
 rwa [ZgX]at this
structure Cert (n:Nat)(l:List Bd)(T:Int)(f nd:List Int):Prop where
 fl:f.length=l.length
 nl:nd.length=n
 pos:∀k:Nat,0<=at0 f k
 pot:∃p,Pot (Zas l f) p
 dv:∀v:Nat,v<n->at0 nd v=-(Zc1 l f v)
 low:∀v:Nat,v<n->-T<=at0 nd v/\at0 nd v<=T
 cap:∀k:Nat,at0 f k+Zfu nd n<=T
theorem ZoI {f:List Int}{T:Int}(hT:T<=1125899906842624)(h:∀k:Nat,k<f.length->-T<=at0 f k/\at0 f k<=T):inB f=true:=by
 simp only[inB,uW,uG];intro x hx;obtain⟨k,hk⟩:=yW hx;have hkl:=(uB.1 hk).1;have:=h k hkl;have e:at0 f k=x:=by rw[at0,uQ,hk];rfl
 omega
theorem Zs0 {n:Nat}{l:List Bd}{T:Int}{f nd:List Int}(hb:ZfC n l)(hn:n<=2048)(hT:T<=1125899906842624)(h:Cert n l T f nd)(hneg:∃s:Nat,s<n/\at0 nd s<0):
  ∃f' nd',Zjo n l f nd=some (f',nd')/\Cert n l T f' nd'/\Zfu nd' n<Zfu nd n:=by
 obtain⟨p,hp⟩:=h.pot;have hg:=Zmt (f:=f) hb;obtain⟨n1,n2⟩:=Zix nd n;obtain⟨W,hW,hI,hO1,hO2⟩:=ZqC hp hg hn n1 n2;have hS:∀v:Nat,(v:Int)∈ZbG nd n->v<n:=λ v hv=>(Zit.1 hv).1
 obtain⟨lo,hlo⟩:=ZpZ p n;have hlo':∀v:Nat,(v:Int)∈ZbG nd n->lo<=p v:=λ v hv=>hlo v (hS v hv)
 have hlow:∀v:Nat,v<n->Rch W v->-34359738368<=lgW W v:=by
  intro v hv hr;obtain⟨k,hk,hw⟩:=ZpE hg hS (hO2 v hv hr).1;have:=Zkn hg hw;omega
 have hrs:∀v:Nat,v<n->Rch W v->∀s∈Zas l f v,Rch W s.1.toNat:=by
  intro v hv hr s hs;obtain⟨⟨j,hw⟩,_⟩:=(hO2 v hv hr).1;obtain⟨d,hd⟩:=ZpD hp hlo' (Wk.step j v _ s hw hs);exact(hO1 _ _ hd).1
 have hstart:∀v:Nat,v<n->at0 nd v<0->Rch W v:=by
  intro v hv hx;have:=(hI.starts v (Zit.2 ⟨hv,hx⟩)).2;rw[Rch];omega
 have hout:∀(k:Nat) b,l[k]? =some b->Rch W b.1.toNat->Rch W b.2.1.toNat/\lgW W b.1.toNat+b.2.2.1<=lgW W b.2.1.toNat:=by
  intro k b hk hr;have hbb:=hb k b hk;have hm:((b.2.1,b.2.2.1,(k:Int),false):Stp)∈Zas l f b.1.toNat:=Zfn.2 ⟨k,b,hk, .inl ⟨by omega,rfl⟩⟩;have h1:=hrs b.1.toNat (by omega) hr _ hm;have h2:=(hO2 b.1.toNat (by omega) hr).2 _ hm;dsimp only at h1 h2;refine⟨h1,?_⟩;rw[lgW,lgW,show((b.2.1.toNat:Nat):Int)=b.2.1 by omega];exact h2
 have hinn:∀(k:Nat) b,l[k]? =some b->0<at0 f k->Rch W b.2.1.toNat->Rch W b.1.toNat/\lgW W b.2.1.toNat<=lgW W b.1.toNat+b.2.2.1:=by
  intro k b hk hf hr;have hbb:=hb k b hk;have hm:((b.1,-b.2.2.1,(k:Int),true):Stp)∈Zas l f b.2.1.toNat:=Zfn.2 ⟨k,b,hk, .inr ⟨hf,by omega,rfl⟩⟩;have h1:=hrs b.2.1.toNat (by omega) hr _ hm;have h2:=(hO2 b.2.1.toNat (by omega) hr).2 _ hm;dsimp only at h1 h2;refine⟨h1,?_⟩;rw[lgW,show lgW W b.1.toNat=(wAt W b.1).1 by rw[lgW,show((b.1.toNat:Nat):Int)=b.1 by omega]];rw[lgW]at h2;omega
 have hneed:∃u:Nat,u<n/\Rch W u/\0<at0 nd u:=by
  refine gM λ hno=>?_
  have hle:∀v:Nat,v<n->Rch W v->at0 nd v<=0:=λ v hv hr=>by
   rcases Az 0 (at0 nd v)with h1|h1
   ·exact absurd ⟨v,hv,hr,h1⟩ hno
   ·exact h1
  obtain⟨s,hs,hs0⟩:=hneg;have hA:=ZqF hb h.fl (λ v=>decide (Rch W v)) l.length (uH _);have h1:ZaL (ZgB l f (λ v=>decide (Rch W v))) l.length<=0:=by
   have:=Zkh (g:=ZgB l f (λ v=>decide (Rch W v))) (h:=λ _=>0) (n:=l.length) λ k hk=>by
    obtain⟨b,hbk⟩:=Zad hk;have hbb:=hb k b hbk;simp only[ZgB,hbk,uG];have:=h.pos k;by_cases c1:Rch W b.1.toNat
    ·rw[if_pos c1,if_pos (hout k b hbk c1).1];omega
    ·rw[if_neg c1];by_cases c2:Rch W b.2.1.toNat
     ·rw[if_pos c2];have:¬0<at0 f k:=λ hf=>c1 (hinn k b hbk hf c2).1
      omega
     ·rw[if_neg c2];omega
   rwa [ZgX]at this
  have h2:0<ZaL (λ v=>if decide (Rch W v)=true then ZaL (ZdY l f v) l.length else 0) n:=by
   have:=ZmB (g:=λ _=>0) (h:=λ v:Nat=>if decide (Rch W v)=true then ZaL (ZdY l f v) l.length else 0) (i:=s) (n:=n) (λ v hv=>by
    simp only[uG];split
    ·rename_i hr;have:=h.dv v hv;have:=hle v hv hr;simp only[Zc1]at*;omega
    ·exact gC _) hs (by
    have hr:=hstart s hs hs0;have:=h.dv s hs;rw[if_pos (yM hr)];simp only[Zc1]at this;omega)
   rwa [ZgX]at this
  omega
 obtain⟨u,hu,hur,hu0⟩:=hneed;have hpk:=ZjT W nd n;obtain⟨pk1,pk2⟩:=Zwk W nd n;have ht0:0<=ZaK W nd n:=by
  rcases Az (ZaK W nd n) 0 with h1|h1
  ·exact absurd ⟨hu0,by have:=hlow u hu hur;omega⟩ (pk1 h1 u hu)
  ·exact h1
 obtain⟨hnt,hlt⟩:=pk2 ht0;obtain⟨t,htt⟩:∃t:Nat,ZaK W nd n=t:=⟨(ZaK W nd n).toNat,by omega⟩;rw[htt]at hnt hlt;have htn:t<n:=by omega
 have htr:Rch W t:=by rw[Rch,lgW];omega
 obtain⟨K,hK⟩:=hI.chain t htn htr;have hcp:=ZkW hp hI htn htr hK.2;have hinj:=Zy2 hK;have hKn:K+1<=n:=ZoK (g:=λ i=>(Zao W t i).toNat) (λ i hi=>by
  obtain⟨x,hx,hxn,_⟩:=hcp i (by omega);show(Zao W t i).toNat<n;rw[hx];omega) (λ i j hij hj he=>by
  obtain⟨x,hx,_⟩:=hcp i (by omega);obtain⟨y,hy,_⟩:=hcp j (by omega);refine hinj i j hij (by omega) ?_;have he:(Zao W t i).toNat=(Zao W t j).toNat:=he;rw[hx,hy]at he|-;omega)
 have hstop:Zmu W t (n+1)=some K:=ZtY (by omega) hK.2 hK.1
 have hlink:∀j,j<K->∃x v:Nat,Zao W t j=v/\Zao W t (j+1)=x/\x<n/\v<n/\Rch W x/\Rch W v/\ZaI W t j∈Zas l f x/\(ZaI W t j).1=v/\lgW W v<=lgW W x+(ZaI W t j).2.1:=by
  intro j hj;obtain⟨v,hv,hvn,hvr,_⟩:=hcp j (by omega);have hbg:=hK.2 j hj;rw[hv]at hbg;rcases hI.par v hvn hvr with⟨h1,_⟩|⟨x,hx,hxr,h1,h2,h3,_,h5⟩
  ·rw[bgW,h1]at hbg;cases hbg
  ·exact⟨x,v,hv,by rw[Zeo,hv];exact h1,hx,hvn,hxr,hvr,by rw[ZaI,hv];exact h2,by rw[ZaI,hv];exact h3,by rw[ZaI,hv];exact h5⟩
 have hco:ChainOk n l f W t K:=by
  refine⟨λ j hj=>?_,λ i j hij hj=>hinj i j hij (by omega)⟩;obtain⟨x,v,hv,hx,hxn,hvn,hxr,hvr,h1,h2,h3⟩:=hlink j hj;obtain⟨k,b,hk,h4⟩:=Zfn.1 h1;refine⟨k,b,hk,?_⟩;rcases h4 with⟨h4,h5⟩|⟨h4,h5,h6⟩
  ·rw[h5]at h2|-;exact⟨rfl, .inl ⟨rfl,by rw[hx];exact h4,by rw[hv];exact h2⟩⟩
  ·rw[h6]at h2|-;exact⟨rfl, .inr ⟨rfl,h4,by rw[hx];exact h5,by rw[hv];exact h2⟩⟩
 obtain⟨s,hs,hsn,hsr,_⟩:=hcp K (uH _);have hsneg:at0 nd s<0:=by
  have hbg:=hK.1;rw[hs]at hbg;rcases hI.par s hsn hsr with⟨_,h2⟩|⟨_,_,_,_,_,_,h4,_⟩
  ·exact(Zit.1 h2).2
  ·rw[hbg]at h4;cases h4
 have hst:s≠t:=λ he=>by rw[he]at hsneg;omega
 have hml:=Zvm W f (at0 nd t) t K;have hmp:0<ZcE W f (at0 nd t) t K:=Zvn hnt K λ j hj hbk=>by
  obtain⟨k,b,_,he,hh⟩:=hco.step j hj;rcases hh with⟨h1,_⟩|⟨_,h1,_⟩
  ·rw[h1]at hbk;cases hbk
  ·rw[he];exact h1
 have hsm:=Zml W f nd t K;rw[hs]at hsm;generalize hmdef:Zei W f nd t K=m at hsm;have hm0:0<m:=by omega
 have hmt:m<=at0 nd t:=by omega
 have hms:m<=-(at0 nd s):=by omega
 have hmb:∀j,j<K->(ZaI W t j).2.2.2=true->m<=at0 f (ZaI W t j).2.2.1:=λ j hj hbk=>by have:=hml.2 j hj hbk;omega
 have hsl:=ZxY hco h.fl (Int.le_of_lt hm0) K (uH _);have hsu:=ZxZ hco h.fl (Int.le_of_lt hm0) K (uH _);have hsd:=λ v:Int=>ZxX (m:=m) hco h.fl v K (uH _)
 have hps:=ZjX nd n;have hfin:∀k:Nat,k<f.length->-T<=at0 f k/\at0 f k<=T:=λ k _=>by have:=h.pos k;have:=h.cap k;omega
 have hl0:0<l.length:=by
  rcases qT l.length with h0|h0
  ·have:=h.dv t htn;simp only[Zc1,h0,ZaL]at this;omega
  ·exact h0
 have hwo:ZgZ n l.length W=true:=by
  simp only[ZgZ,uO,uG,uW];refine⟨hI.len,λ w hw=>?_⟩;obtain⟨i,hi⟩:=yW hw;have hin:i<n:=by have:=(uB.1 hi).1;rw[hI.len]at this;exact this
  have hwi:wAt W (i:Int)=w:=by rw[wAt,uQ,hi];rfl
  rcases hI.sound i hin with h1|⟨h1,_⟩
  ·rw[<-hwi,h1];simp[Zdz];omega
  ·rcases hI.par i hin h1 with⟨h2,_⟩|⟨x,hx,_,h2,h3,_⟩
   ·rw[<-hwi,h2];simp[ZcW];omega
   ·rw[hwi]at h2 h3;obtain⟨k,b,hk,h4⟩:=Zfn.1 h3;have hkl:=(uB.1 hk).1;rcases h4 with⟨_,h5⟩|⟨_,_,h5⟩<;>(rw[h5,h2];dsimp only;omega)
 have hcond:(decide (0<=ZaK W nd n)&&ZgZ n l.length W&&inB f&&inB nd)=true:=by
  rw[hwo,ZoI hT hfin,ZoI hT (λ k hk=>h.low k (by rw[<-h.nl];exact hk)),yM ht0];rfl
 have hat:∀v:Nat,v<n->at0 ((nd.set s (at0 nd s+m)).set t (at0 (nd.set s (at0 nd s+m)) t-m)) v=at0 nd v+((if s=v then m else 0)-(if t=v then m else 0)):=by
  intro v hv;have e1:∀v:Nat,at0 (nd.set s (at0 nd s+m)) v=if v=s then at0 nd s+m else at0 nd v:=λ v=>by
   rw[Zgv _ _ _ _ (by omega)];by_cases h1:v=s
   ·rw[if_pos ⟨by omega,by rw[h.nl];exact hsn⟩,if_pos h1]
   ·rw[if_neg (by omega),if_neg h1]
  rw[Zgv _ _ _ _ (by omega),e1 t,if_neg (show¬t=s from λ he=>hst he.symm)];by_cases h1:v=t
  ·subst h1;rw[if_pos ⟨rfl,by rw[yL,h.nl];exact hv⟩,if_neg hst,if_pos rfl];omega
  ·rw[if_neg (by omega),e1 v,if_neg (show¬t=v from λ he=>h1 he.symm)];by_cases h2:v=s
   ·subst h2;rw[if_pos rfl,if_pos rfl];omega
   ·rw[if_neg h2,if_neg (λ he=>h2 he.symm)];omega
 have hps':Zfu ((nd.set s (at0 nd s+m)).set t (at0 (nd.set s (at0 nd s+m)) t-m)) n=Zfu nd n+-m:=by
  refine Zq3 (i:=t) htn λ v hv=>?_
  rw[hat v hv];by_cases h1:t=v
  ·subst h1;rw[if_pos rfl,if_neg hst,if_pos rfl];omega
  ·rw[if_neg h1,if_neg h1];by_cases h2:s=v
   ·subst h2;rw[if_pos rfl];omega
   ·rw[if_neg h2];omega
 refine⟨Zbw W f m t K,(nd.set s (at0 nd s+m)).set t (at0 (nd.set s (at0 nd s+m)) t-m),?_,?_,by omega⟩
 ·rw[Zjo,hW];dsimp only;rw[htt]at hcond;rw[htt,hstop];dsimp only;rw[if_pos hcond,hmdef,hs,uQ,uQ]
 ·obtain⟨hi,hhi⟩:=Zwu p n;refine⟨by rw[ZgU,h.fl],by rw[yL,yL,h.nl],λ k=>?_,?_,λ v hv=>?_,λ v hv=>?_,λ k=>?_⟩
  ·obtain⟨a1,a2⟩:=hsl k;have:=h.pos k;by_cases hex:∃j,j<K/\(ZaI W t j).2.2.2=true/\(ZaI W t j).2.2.1=k
   ·obtain⟨j,hj,h1,h2⟩:=hex;have:=hmb j hj h1;rw[h2]at this;omega
   ·have:=a1 λ j hj hh=>hex ⟨j,hj,hh.1,hh.2⟩
    omega
  ·
   refine⟨λ v=>if Rch W v then lgW W v else p v-(hi+34359738368+16777216),(ZjY hb).2 λ k b hk=>?_⟩;have hbb:=hb k b hk;have hpb:=(ZjY hb).1 hp k b hk;have hh1:=hhi b.1.toNat (by omega)
   try dsimp only
   by_cases c1:Rch W b.1.toNat
   ·obtain⟨c2,c3⟩:=hout k b hk c1;rw[if_pos c1,if_pos c2];refine⟨c3,λ hf=>?_⟩;by_cases c4:0<at0 f k
    ·exact(hinn k b hk c4 c2).2
    ·have hex:∃j,j<K/\(ZaI W t j).2.2.2=false/\(ZaI W t j).2.2.1=k:=gM λ hno=>by
      have:=(hsu k).1 λ j hj hh=>hno ⟨j,hj,hh.1,hh.2⟩
      omega
     obtain⟨j,hj,h1,h2⟩:=hex;obtain⟨x,v,hv,hx,_,_,_,_,_,_,h3⟩:=hlink j hj;obtain⟨k',b',hk',he,hcase⟩:=hco.step j hj;have:k'=k:=by omega
     subst this;rw[hk]at hk';cases hk';rcases hcase with⟨_,h4,h5⟩|⟨h4,_⟩
     ·have hlen:(ZaI W t j).2.1=b.2.2.1:=by
       obtain⟨x',v',hv',hx',_,_,_,_,h6,_⟩:=hlink j hj;obtain⟨k2,b2,hk2,h7⟩:=Zfn.1 h6;rcases h7 with⟨_,h8⟩|⟨_,_,h8⟩
       ·rw[h8]at he|-;have:k2=k':=by dsimp only at he;omega
        subst this;rw[hk]at hk2;cases hk2;rfl
       ·rw[h8]at h1;cases h1
      rw[hlen]at h3;rw[show b.1.toNat=x by rw[h4,hx];omega,show b.2.1.toNat=v by rw[h5,hv];omega];exact h3
     ·rw[h1]at h4;cases h4
   ·rw[if_neg c1];have hnof:Rch W b.2.1.toNat->¬0<at0 (Zbw W f m t K) k:=by
     intro c2 hf;have c4:¬0<at0 f k:=λ h0=>c1 (hinn k b hk h0 c2).1
     have hex:∃j,j<K/\(ZaI W t j).2.2.2=false/\(ZaI W t j).2.2.1=k:=gM λ hno=>by
      have:=(hsu k).1 λ j hj hh=>hno ⟨j,hj,hh.1,hh.2⟩
      omega
     obtain⟨j,hj,h1,h2⟩:=hex;obtain⟨x,v,hv,hx,_,_,hxr,_⟩:=hlink j hj;obtain⟨k',b',hk',he,hcase⟩:=hco.step j hj;have:k'=k:=by omega
     subst this;rw[hk]at hk';cases hk';rcases hcase with⟨_,h4,_⟩|⟨h4,_⟩
     ·exact c1 (by rw[show b.1.toNat=x by rw[h4,hx];omega];exact hxr)
     ·rw[h1]at h4;cases h4
    by_cases c2:Rch W b.2.1.toNat
    ·rw[if_pos c2];have:=hlow b.2.1.toNat (by omega) c2;exact⟨by omega,λ hf=>absurd hf (hnof c2)⟩
    ·rw[if_neg c2];refine⟨by omega,λ hf=>?_⟩;by_cases c4:0<at0 f k
     ·have:=hpb.2 c4;omega
     ·exfalso;have hex:∃j,j<K/\(ZaI W t j).2.2.2=false/\(ZaI W t j).2.2.1=k:=gM λ hno=>by
       have:=(hsu k).1 λ j hj hh=>hno ⟨j,hj,hh.1,hh.2⟩
       omega
      obtain⟨j,hj,h1,h2⟩:=hex;obtain⟨x,v,hv,hx,_,_,hxr,_⟩:=hlink j hj;obtain⟨k',b',hk',he,hcase⟩:=hco.step j hj;have:k'=k:=by omega
      subst this;rw[hk]at hk';cases hk';rcases hcase with⟨_,h4,_⟩|⟨h4,_⟩
      ·exact c1 (by rw[show b.1.toNat=x by rw[h4,hx];omega];exact hxr)
      ·rw[h1]at h4;cases h4
  ·rw[hat v hv,hsd v,h.dv v hv,hs];by_cases c1:s=v<;>by_cases c2:t=v
   ·rw[if_pos c1,if_pos c2,if_pos (by omega),if_pos (by omega)];omega
   ·rw[if_pos c1,if_neg c2,if_neg (by omega),if_pos (by omega)];omega
   ·rw[if_neg c1,if_pos c2,if_pos (by omega),if_neg (by omega)];omega
   ·rw[if_neg c1,if_neg c2,if_neg (by omega),if_neg (by omega)];omega
  ·rw[hat v hv];have:=h.low v hv;by_cases c1:s=v<;>by_cases c2:t=v
   ·exact absurd (c1.trans c2.symm) hst
   ·subst c1;rw[if_pos rfl,if_neg c2];omega
   ·subst c2;rw[if_neg c1,if_pos rfl];omega
   ·rw[if_neg c1,if_neg c2];omega
  ·have:=(hsu k).2;have:=h.cap k;omega
theorem ZsZ {n:Nat}{l:List Bd}{T:Int}(hb:ZfC n l)(hn:n<=2048)(hT:T<=1125899906842624):∀(R:Nat) (f nd:List Int),Cert n l T f nd->Zfu nd n<R->
  ∃f1 nd1,Zfb n l R f nd=some f1/\Cert n l T f1 nd1/\∀v:Nat,v<n->0<=at0 nd1 v:=by
 intro R
 induction R with
 |zero=>intro f nd h hR;have:=ZjX nd n;omega
 |succ R ih=>
  intro f nd h hR;rw[Zfb];rcases hem:(ZbG nd n).isEmpty with _|_
  ·have hex:∃s:Nat,s<n/\at0 nd s<0:=by
    cases hl:ZbG nd n with
    |nil=>rw[hl]at hem;cases hem
    |cons x r=>
     have hx:x∈ZbG nd n:=by rw[hl];simp
     have hxb:=(Zix nd n).1 x hx;have:=Zit.1 (show((x.toNat:Nat):Int)∈ZbG nd n by rw[show((x.toNat:Nat):Int)=x by omega];exact hx);exact⟨_,this.1,this.2⟩
   obtain⟨f',nd',h1,h2,h3⟩:=Zs0 hb hn hT h hex;rw[if_neg (by decide),h1]
   try dsimp only
   exact ih f' nd' h2 (by omega)
  ·rw[if_pos rfl];refine⟨f,nd,rfl,h,λ v hv=>?_⟩;rcases Az (at0 nd v) 0 with h1|h1
   ·have:=(Zit (n:=n)).2 ⟨hv,h1⟩;rw[Aj.1 hem]at this;simp at this
   ·exact h1
end partZb
theorem Znm (l:List Bd)(k:Nat):at0 (zeros l) k=0:=by
 simp only[at0,zeros,gI];split<;>rfl
theorem Zvs {l:List Bd}(v:Int):ZaL (Zdp l v) l.length=-(Zc1 l (zeros l) v):=by
 rw[Zc1,<-ZmC];refine ZhJ λ k hk=>?_
 obtain⟨b,hb⟩:=Zad hk;have hz:(zeros l)[k]? =some 0:=by simp[zeros,hk]
 simp only[Zdp,ZdY,hb,hz];split<;>split<;>omega
theorem Zsk {W:List Way}{n v:Nat}(hl:W.length=n)(hv:v<n):at0 (ZeW W) v=lgW W v:=by
 have:=Zdy (v:=(v:Int)) hl (by omega) (by omega);rw[uQ]at this;rw[at0,ZeW,uQ,uI,this];rfl
structure Best (n:Nat)(l:List Bd)(r f:List Int):Prop where
 fl:f.length=l.length
 rl:r.length=n
 pos:∀k:Nat,0<=at0 f k/\at0 f k<=1099511627776
 dv:∀v:Nat,v<n->Zc1 l f v=0
 opt:∀v:Nat,v<n->Opt (Zas l f) (ZmY n) v (at0 r v)
theorem solve_best {n:Nat}{l:List Bd}(hg:nOk ((n:Int),l)=true)(hp:∃p,PotB l (zeros l) p):∃r f,SolveOk ((n:Int),l) r f/\Best n l r f:=by
 obtain⟨hb,hn,hl⟩:=Znu hg;obtain⟨p,hp⟩:=hp;have hp0:=(ZjY (f:=zeros l) hb).2 hp;obtain⟨W0,hW0,_,_⟩:=Zo9 hb hn hp0;have hnd:∀v:Nat,v<n->at0 (Zbv l n l.length) v=ZaL (Zdp l v) l.length:=λ v hv=>by
  rw[at0,uQ,Ziw hv];rfl
 have hbd:∀v:Nat,v<n->-32768000<=at0 (Zbv l n l.length) v/\at0 (Zbv l n l.length) v<=32768000:=λ v hv=>by
  have:=ZlL (l:=l) (v:=(v:Int)) (m:=l.length) (uH _) (λ k b hk=>by have:=hb k b hk;omega);rw[hnd v hv];omega
 have hps:Zfu (Zbv l n l.length) n<=32768000*(n:Int):=by
  have:=(Zq2 (f:=λ v:Nat=>max 0 (at0 (Zbv l n l.length) v)) (c:=32768000) (m:=n) (λ v hv=>by have:=hbd v hv;omega) n (uH _)).2;exact this
 have hcert:Cert n l 67108864000 (zeros l) (Zbv l n l.length):=
  ⟨by simp[zeros],Zhu _ _ _,λ k=>by rw[Znm];exact gC _,⟨p,hp0⟩,λ v hv=>by rw[hnd v hv,Zvs],λ v hv=>by have:=hbd v hv;omega,λ k=>by rw[Znm];omega⟩
 obtain⟨f,nd,hc,hC,hnn⟩:=ZsZ hb hn (by decide) ((Zfu (Zbv l n l.length) n).toNat+1) (zeros l) (Zbv l n l.length) hcert (by have:=ZjX (Zbv l n l.length) n;omega);obtain⟨q,hq⟩:=hC.pot;obtain⟨W,hW,hWl,hopt⟩:=Zo9 hb hn hq;refine⟨ZeW W,f,?_,hC.fl,by simp[ZeW,hWl],λ k=>?_,λ v hv=>?_,λ v hv=>by rw[Zsk hWl hv];exact hopt v hv⟩
 ·exact⟨n,rfl,by simp[ZeW,hWl],hC.fl,Zm9 n l f _ W0 W hg hW0 hc hC.fl hW hWl⟩
 ·have:=hC.pos k;have:=hC.cap k;have:=ZjX nd n;omega
 ·
  have hA:=ZqF hb hC.fl (λ _=>true) l.length (uH _);have hz:ZaL (ZgB l f (λ _=>true)) l.length=0:=by
   rw[ZhJ (h:=λ _=>0) λ k hk=>by
    obtain⟨b,hbk⟩:=Zad hk;simp only[ZgB,hbk,if_true];omega,ZgX]
  simp only[if_true]at hA;rw[hz]at hA;have hle:∀v:Nat,v<n->Zc1 l f v<=0:=λ v hv=>by have:=hC.dv v hv;have:=hnn v hv;omega
  rcases Az (Zc1 l f v) 0 with h1|h1
  ·have:=ZmB (g:=λ v:Nat=>ZaL (ZdY l f v) l.length) (h:=λ _=>0) (n:=n) (i:=v) hle hv h1;rw[ZgX]at this;omega
  ·have:=hle v hv;omega
theorem solve_none {n:Nat}{l:List Bd}(hg:nOk ((n:Int),l)=true)(hp:¬∃p,PotB l (zeros l) p):SolveNo ((n:Int),l) 9:=by
 obtain⟨hb,hn,hl⟩:=Znu hg;refine ZrP n l hg ?_;cases h:ZbT n (Zas l (zeros l)) (ZbQ n)with
 |none=>rfl
 |some W=>exact absurd ⟨_,(ZjY hb).1 (Zwv hb h)⟩ hp
section best
variable {n:Nat}{l:List Bd}{r f:List Int}
end best
end Go.Proofs.YtjjbhjnpeenbkaaGreatDoor.Sx
namespace Go.Proofs.YtjjbhjnpeenbkaaGreatDoor.Cyc
open Go Go.PS Go.Proofs
set_option maxRecDepth 100000
attribute [local irreducible] Zab wpG Zaa
def Zd8 (l:List Int)(n:Int):Bool:=l.any (λ x=>decide (x=n))
def placeF (l:List Int)(n:Int):Int:=ZcD (l.findIdx? (λ x=>decide (x=n)))
theorem ZjA (l:List Int)(n:Int):Zaa Tryz.prog 170 [Zac l, .int n] (.int (placeF l n)):=by
 refine kE Tryz.func170 ?_;intro hat B X w0;have hl:=Zbb 0 hat rfl;rw[uE]at hl;refine kw1 kO kc0 kc0 ?_;refine Zai (λ(k:Nat)=>k<=l.length/\∀(j:Nat) y,j<k->l[j]? =some y->(decide (y=n))=false) (λ k=>[(0, .d (Zac l)),(1, .int n),(7, .int l.length),(8, .int k)]) (λ k=>[]) (λ k=>l.length-k) 0 ?_ ?_ ?_
 ·exact⟨uJ _,λ j y h=>by omega⟩
 ·exact kN kc0 []
 ·rintro k ⟨hk,hinv⟩;rcases uF k l.length with hlt|hge
  ·obtain⟨p,hp⟩:=Zad hlt;refine kw kO (kc1 hp) kc0 ?_
   repeat' first|exact True.intro|refine Bn.mk ?_ ?_|intro hc
   ·refine Zah ?_;rw[placeF,Zer hp (by simpa using hc.symm) hinv];rfl
   ·refine⟨k+1,?_,eL [] _ _ (by refine⟨?_,?_⟩<;>(repeat' first|exact fmn|refine fmc ⟨(by first|rfl|(simp(disch:=omega) only[go_sem,simprocAttr,inL];first|done|omega|(congr 1;done))),?_⟩);done),?_⟩
    ·exact⟨by omega,ZbI hinv hp (by simpa using λ h=>hc h.symm)⟩
    ·omega
  ·refine kw1 kO kc0 kc0 ?_;refine Zah ?_;rw[placeF,ZeS (λ j y hy=>hinv j y (by have:=(uB.1 hy).1;omega) hy)];rfl
theorem Ztl (l:List Int)(n:Int):Zaa Tryz.prog 224 [Zac l, .int n] (.bool (Zd8 l n)):=by
 refine kE Tryz.func224 ?_;intro hat B X w0;refine kw1 kO kc0 (kc1 (ZjA l n)) ?_;exact Zaj (ZgI _ l)
def ZhW (l:List Arc)(a:Arc):Option Nat:=l.findIdx? (λ x=>decide (x=a))
theorem Zxb (l:List Int)(i:Nat)(x:Int)(hx:l[i]? =some x):Zaa Tryz.prog 242 [Zac l, .int i] (.bool (Zd8 (l.take i) x)):=by
 have hi:=(uB.1 hx).1;refine kE Tryz.func242 ?_;intro hat B X w0;have hl:=Zbb 0 hat rfl;rw[uE]at hl;have hr:=Ztl (l.take i) x;simp only[Zac,Ac]at hr;refine kw1 kO (kc1 hx) (kc1 hr) ?_;exact Zaj rfl
def ZfH (l:List Int)(n:Int)(k:Nat):Int:=match l[k]? with
 |some x=>if x<0\/n<=x then 3 else if Zd8 (l.take k) x then 6 else 0
 |none=>0
def Zfm (l:List Int)(n:Int):Int:=Zdm (ZfH l n) l.length
theorem Zu6 (l:List Int)(n:Int):Zaa Tryz.prog 209 [Zac l, .int n] (.int (Zfm l n)):=by
 refine kE Tryz.func209 ?_;intro hat B X w0;have hl:=Zbb 0 hat rfl;rw[uE]at hl;refine kw1 kO kc0 kc0 ?_;refine Zai (λ(k:Nat)=>k<=l.length/\Zdm (ZfH l n) k=0) (λ k=>[(0, .d (Zac l)),(1, .int n),(7, .d (Zac l)),(8, .int l.length),(9, .int k)]) (λ k=>[]) (λ k=>l.length-k) 0 ?_ ?_ ?_
 ·exact⟨uJ _,rfl⟩
 ·exact kN kc0 []
 ·rintro k ⟨hk,hinv⟩;rcases uF k l.length with hlt|hge
  ·obtain⟨p,hp⟩:=Zad hlt;have hr:=Zxb l k p hp;refine kw kO (kc1 hp) (kc1 hr) ?_
   repeat' first|exact True.intro|refine Bn.mk ?_ ?_|intro hc
   all_goals try
    refine Zah ?_
    first
     |exact(Zop hlt hinv (by simp only[ZfH,hp];rw[if_pos (by omega)]) (by decide)).symm
     |exact(Zop hlt hinv (by simp only[ZfH,hp];rw[if_neg (by omega),if_pos (by assumption)]) (by decide)).symm
   ·refine⟨k+1,?_,eL [] _ _ (by refine⟨?_,?_⟩<;>(repeat' first|exact fmn|refine fmc ⟨(by first|rfl|(simp(disch:=omega) only[go_sem,simprocAttr,inL];first|done|omega|(congr 1;done))),?_⟩);done),?_⟩
    ·refine⟨by omega,Zoq hinv ?_⟩;simp only[ZfH,hp];rw[if_neg (by omega),if_neg (by simp[*])]
    ·omega
  ·refine kw1 kO kc0 kc0 ?_;refine Zah ?_;have:k=l.length:=by omega
   rw[Zfm,<-this,hinv]
end Go.Proofs.YtjjbhjnpeenbkaaGreatDoor.Cyc
