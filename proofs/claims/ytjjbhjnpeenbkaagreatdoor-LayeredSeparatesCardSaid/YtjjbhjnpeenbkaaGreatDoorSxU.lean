/- Walks in a net of steps; the search for longest ways: it ends, and its ways are the longest. -/
import Derived.Test.YtjjbhjnpeenbkaaGreatDoorSxL
set_option linter.unusedSimpArgs false
set_option linter.unusedVariables false
set_option maxHeartbeats 16000000
namespace Go.Proofs.YtjjbhjnpeenbkaaGreatDoor.Sx
open Go Go.PS Go.Proofs
section partU
theorem ZlQ :∀(n:Nat) (l:List Nat),l.Nodup->(∀x∈l,x<n)->l.length<=n:=by
 intro n
 induction n with
 |zero=>intro l _ h;cases l with
  |nil=>exact uJ _
  |cons a l=>have:=h a (by simp);omega
 |succ n ih=>
  intro l hl h;by_cases hn:n∈l
  ·have h1:=ih (l.erase n) (hl.erase n) (λ x hx=>by
    have h2:=(hl.mem_erase_iff).1 hx;have:=h x h2.2;omega)
   rw[jV hn]at h1;omega
  ·have:=ih l hl (λ x hx=>by
    have:=h x hx;have:x≠n:=λ he=>hn (he▸hx)
    omega)
   omega
theorem ZAL {g:Nat->Nat}:∀(k:Nat),(∀i j,i<j->j<k->g i≠g j)->((List.range k).map g).Nodup:=by
 intro k
 induction k with
 |zero=>intro _;simp
 |succ k ih=>
  intro h;rw[qN,uQ,kL];refine⟨ih λ i j hij hj=>h i j hij (by omega),by simp,λ a ha b hb=>?_⟩;obtain⟨i,hi,rfl⟩:=uP.1 ha;simp at hb;rw[hb];exact h i k (uZ.1 hi) (by omega)
theorem ZrR {g:Nat->Nat}{k n:Nat}(h:∀i,i<k->g i<n)(inj:∀i j,i<j->j<k->g i≠g j):k<=n:=by
 have:=ZlQ n _ (ZAL k inj) (λ x hx=>by
  obtain⟨i,hi,rfl⟩:=uP.1 hx;exact h i (uZ.1 hi))
 simpa using this
inductive Wk (ST:Nat->List Stp)(S:Nat->Prop):Nat->Nat->Int->Prop
 |start (v:Nat) (h:S v):Wk ST S 0 v 0
 |step (k v:Nat) (d:Int) (s:Stp) (h:Wk ST S k v d) (hs:s∈ST v):Wk ST S (k+1) s.1.toNat (d+s.2.1)
def Pot (ST:Nat->List Stp)(p:Nat->Int):Prop:=∀v s,s∈ST v->p v+s.2.1<=p s.1.toNat
def Zc0 (n:Nat)(ST:Nat->List Stp):Prop:=∀v s,s∈ST v->v<n/\0<=s.1/\s.1<(n:Int)/\s.1≠v/\-16777216<=s.2.1/\s.2.1<=16777216
variable {ST:Nat->List Stp}{S:Nat->Prop}{n:Nat}{p:Nat->Int}
theorem ZvB {lo:Int}(hp:Pot ST p)(hlo:∀v,S v->lo<=p v){k v:Nat}{d:Int}(h:Wk ST S k v d):d<=p v-lo:=by
 induction h with
 |start v h=>have:=hlo v h;omega
 |step k v d s _ hs ih=>have:=hp v s hs;omega
theorem Zjv (hg:Zc0 n ST)(hS:∀v,S v->v<n){k v:Nat}{d:Int}(h:Wk ST S k v d):v<n:=by
 cases h with
 |start v h=>exact hS v h
 |step k v d s _ hs=>have:=hg v s hs;omega
theorem ZkK (hg:Zc0 n ST){k v:Nat}{d:Int}(h:Wk ST S k v d):-(16777216*(k:Int))<=d/\d<=16777216*(k:Int):=by
 induction h with
 |start v h=>omega
 |step k v d s _ hs ih=>have:=hg v s hs;omega
def Opt (ST:Nat->List Stp)(S:Nat->Prop)(v:Nat)(d:Int):Prop:=(∃k,Wk ST S k v d)/\∀k d',Wk ST S k v d'->d'<=d
theorem Zoo {v:Nat}{d d':Int}(h:Opt ST S v d)(h':Opt ST S v d'):d=d':=by
 obtain⟨⟨k,hk⟩,h1⟩:=h;obtain⟨⟨k',hk'⟩,h2⟩:=h';have:=h1 k' d' hk';have:=h2 k d hk;omega
theorem Zyl {P:Int->Prop}{B:Int}(hb:∀d,P d->d<=B):∀(m:Nat) (a:Int),P a->B-a<=m->∃d,P d/\∀d',P d'->d'<=d:=by
 intro m
 induction m with
 |zero=>intro a ha hm;exact⟨a,ha,λ d' hd=>by have:=hb d' hd;omega⟩
 |succ m ih=>
  intro a ha hm;by_cases h:∃d,P d/\a<d
  ·obtain⟨d,hd,hlt⟩:=h;exact ih d hd (by omega)
  ·exact⟨a,ha,λ d' hd=>by
    rcases Be a d' with h1|h1
    ·exact absurd ⟨d',hd,h1⟩ h
    ·exact h1⟩
theorem Zs8 {lo:Int}(hp:Pot ST p)(hlo:∀v,S v->lo<=p v){k v:Nat}{d:Int}(h:Wk ST S k v d):∃d',Opt ST S v d':=by
 obtain⟨d',⟨k',h1⟩,h2⟩:=Zyl (P:=λ d=>∃k,Wk ST S k v d) (B:=p v-lo) (λ d ⟨k,hk⟩=>ZvB hp hlo hk) (p v-lo-d).toNat d ⟨k,h⟩ (by omega);exact⟨d',⟨k',h1⟩,λ k d'' hd=>h2 d'' ⟨k,hd⟩⟩
def ZkQ (ST:Nat->List Stp)(S:Nat->Prop)(k v:Nat):Prop:=∃d,Opt ST S v d/\Wk ST S k v d/\∀j,j<k->¬Wk ST S j v d
theorem ZAp :∀(k v:Nat),ZkQ ST S k v->∃g:Nat->Nat,∀i,i<=k->ZkQ ST S i (g i):=by
 intro k
 induction k with
 |zero=>intro v h;exact⟨λ _=>v,λ i hi=>by rw[show i=0 by omega];exact h⟩
 |succ k ih=>
  intro v h;have h0:=h;obtain⟨d,ho,hw,hmin⟩:=h;cases hw with
  |step _ u d0 s hu hs=>
   have hou:Opt ST S u d0:=⟨⟨k,hu⟩,λ j d1 h1=>by
    have:=ho.2 _ _ (Wk.step j u d1 s h1 hs);omega⟩
   obtain⟨g,hg⟩:=ih u ⟨d0,hou,hu,λ j hj hwj=>hmin (j+1) (by omega) (.step j u d0 s hwj hs)⟩;refine⟨λ i=>if i=k+1 then s.1.toNat else g i,λ i hi=>?_⟩;simp only;split
   ·rename_i h;rw[h];exact h0
   ·exact hg i (by omega)
theorem ZAq {v:Nat}{d:Int}(h:Opt ST S v d):∃k,ZkQ ST S k v:=by
 obtain⟨k,hk⟩:=h.1;have key:∀m k,k<=m->Wk ST S k v d->∃k,ZkQ ST S k v:=by
  intro m
  induction m with
  |zero=>intro k hk0 hk;exact⟨k,d,h,hk,λ j hj=>by omega⟩
  |succ m ih=>
   intro k hkm hk;by_cases hex:∃j,j<k/\Wk ST S j v d
   ·obtain⟨j,hj,hw⟩:=hex;exact ih j (by omega) hw
   ·exact⟨k,d,h,hk,λ j hj hw=>hex ⟨j,hj,hw⟩⟩
 exact key k k (uJ _) hk
theorem Zop (hg:Zc0 n ST)(hS:∀v,S v->v<n){v:Nat}{d:Int}(h:Opt ST S v d):∃k,k+1<=n/\Wk ST S k v d:=by
 obtain⟨k,hk⟩:=ZAq h;obtain⟨g,hgm⟩:=ZAp k v hk;have hle:k+1<=n:=ZrR (g:=g) (λ i hi=>by
  obtain⟨d,_,hw,_⟩:=hgm i (by omega);exact Zjv hg hS hw) (λ i j hij hj he=>by
  obtain⟨d1,o1,w1,m1⟩:=hgm i (by omega);obtain⟨d2,o2,w2,m2⟩:=hgm j (by omega);rw[he]at o1 w1;have:=Zoo o1 o2;subst this;exact m2 i hij w1)
 obtain⟨d',o,w,_⟩:=hk;rw[Zoo h o];exact⟨k,hle,w⟩
end partU
section partV
abbrev lgW (W:List Way)(v:Nat):Int:=(wAt W (v:Int)).1
abbrev bgW (W:List Way)(v:Int):Bool:=(wAt W v).2.2.2
def Stop (W:List Way)(v:Int)(k:Nat):Prop:=bgW W (Zat W v k)=true/\∀j,j<k->bgW W (Zat W v j)=false
def Rch (W:List Way)(v:Nat):Prop:=lgW W v≠-1152921504606846976
def Zv2 (ST:Nat->List Stp)(S:Nat->Prop)(n:Nat)(W:List Way)(v:Nat):Prop:=
 (wAt W (v:Int)=ZdH/\S v)\/(∃u:Nat,u<n/\Rch W u/\(wAt W (v:Int)).2.1=u/\(wAt W (v:Int)).2.2.1∈ST u/\(wAt W (v:Int)).2.2.1.1=v/\bgW W v=false/\lgW W v<=lgW W u+(wAt W (v:Int)).2.2.1.2.1)
structure InvW (ST:Nat->List Stp)(S:Nat->Prop)(n c:Nat)(W:List Way):Prop where
 len:W.length=n
 sound:∀v,v<n->wAt W (v:Int)=Zep\/(Rch W v/\∃j,j<=c/\Wk ST S j v (lgW W v))
 starts:∀v,S v->v<n/\0<=lgW W v
 par:∀v,v<n->Rch W v->Zv2 ST S n W v
 chain:∀v,v<n->Rch W v->∃k,Stop W v k
variable {ST:Nat->List Stp}{S:Nat->Prop}{n:Nat}{p:Nat->Int}
theorem Zl5 {c:Nat}{W:List Way}(h:InvW ST S n c W){v:Nat}(hv:v<n)(hr:Rch W v):∃j,j<=c/\Wk ST S j v (lgW W v):=by
 rcases h.sound v hv with h1|h1
 ·exact absurd (by rw[lgW,h1];rfl) hr
 ·exact h1.2
theorem ZhN (W:List Way)(v:Int)(i:Nat):∀j,Zat W v (i+j)=Zat W (Zat W v i) j
 |0=>rfl
 |j+1=>by rw[<-kX,Zfp,Zfp,ZhN W v i j]
theorem Znb {c:Nat}{W:List Way}(hp:Pot ST p)(h:InvW ST S n c W){v:Nat}(hv:v<n)(hr:Rch W v){k:Nat}(hk:∀j,j<k->bgW W (Zat W v j)=false):
  ∀i,i<=k->∃u:Nat,Zat W v i=u/\u<n/\Rch W u/\lgW W v-lgW W u<=p v-p u:=by
 intro i
 induction i with
 |zero=>intro _;exact⟨v,rfl,hv,hr,by omega⟩
 |succ i ih=>
  intro hi;obtain⟨u,hu,hun,hur,hle⟩:=ih (by omega);have hb:=hk i (by omega);rw[hu]at hb;rcases h.par u hun hur with⟨h1,_⟩|⟨x,hx,hxr,h1,h2,h3,_,h5⟩
  ·rw[bgW,h1]at hb;cases hb
  ·refine⟨x,by rw[Zfp,hu];exact h1,hx,hxr,?_⟩;have:=hp x _ h2;rw[h3,uM]at this;omega
theorem ZEJ {W:List Way}{v:Int}{k:Nat}(h:Stop W v k):∀i j,i<j->j<=k->Zat W v i≠Zat W v j:=by
 intro i j hij hjk he;obtain⟨h1,h2⟩:=h;have e1:Zat W v (j+(k-j))=Zat W (Zat W v j) (k-j):=ZhN W v j (k-j);have e2:Zat W v (i+(k-j))=Zat W (Zat W v i) (k-j):=ZhN W v i (k-j);rw[he,<-e1,show j+(k-j)=k by omega]at e2;have:=h2 (i+(k-j)) (by omega);rw[e2,h1]at this;cases this
theorem ZCy {c:Nat}{W:List Way}(hp:Pot ST p)(hg:Zc0 n ST)(hc:c+1<=34359738368)(h:InvW ST S n (c+1) W){v:Nat}{s:Stp}(hv:v<n)(hr:Rch W v)(hw:∃j,j<=c/\Wk ST S j v (lgW W v))(hs:s∈ST v)
  (hlt:(wAt W s.1).1<(wAt W v).1+s.2.1):InvW ST S n (c+1) (W.set s.1.toNat ((wAt W v).1+s.2.1,v,s,false)):=by
 obtain⟨hvn,hs0,hsn,hsv,hl1,hl2⟩:=hg v s hs;obtain⟨j,hj,hwk⟩:=hw;obtain⟨t,ht⟩:∃t:Nat,s.1=t:=⟨s.1.toNat,by omega⟩;have htn:t<n:=by omega
 have hset:∀u:Nat,wAt (W.set s.1.toNat ((wAt W v).1+s.2.1,v,s,false)) (u:Int)=if(u:Int)=s.1 then((wAt W v).1+s.2.1,(v:Int),s,false)else wAt W u:=
  λ u=>ZhE (by omega) hs0 (by rw[h.len];omega)
 have hbd:=ZkK hg hwk;simp only[lgW]at hbd;have hnew:(wAt W v).1+s.2.1≠-1152921504606846976:=by omega
 have hpv:=hp v s hs;rw[ht,uM]at hpv;have hltt:lgW W t<lgW W v+s.2.1:=by rw[lgW,lgW,<-ht];exact hlt
 have hltt2:(wAt W (t:Int)).1<(wAt W (v:Int)).1+s.2.1:=hltt;generalize hW':W.set s.1.toNat ((wAt W v).1+s.2.1,(v:Int),s,false)=W' at hset|-;have hT:wAt W' (t:Int)=(lgW W v+s.2.1,(v:Int),s,false):=by rw[hset,if_pos ht.symm]
 have hO:∀u:Nat,u≠t->wAt W' (u:Int)=wAt W u:=λ u hu=>by rw[hset,if_neg (by omega)]
 have hmono:∀u:Nat,lgW W u<=lgW W' u:=λ u=>by
  by_cases hu:u=t
  ·subst hu;rw[lgW,lgW,hT];exact Dh hltt2
  ·rw[lgW,lgW,hO u hu];exact qX _
 have hrT:Rch W' t:=by rw[Rch,lgW,hT];exact hnew
 have hrO:∀u:Nat,u≠t->(Rch W' u↔Rch W u):=λ u hu=>by rw[Rch,Rch,lgW,lgW,hO u hu]
 have hvt:v≠t:=by omega
 obtain⟨kv,hkv⟩:=h.chain v hv hr;have hcv:=Znb hp h hv hr hkv.2;have hno:∀i,i<=kv->Zat W v i≠(t:Int):=by
  intro i hi he;obtain⟨u,hu,_,_,hle⟩:=hcv i hi;have:u=t:=by rw[he]at hu;omega
  subst this;omega
 have hsame:∀i,i<=kv->Zat W' v i=Zat W v i:=by
  intro i
  induction i with
  |zero=>intro _;rfl
  |succ i ih=>
   intro hi;obtain⟨u,hu,_⟩:=hcv i (by omega);have:=hno i (by omega);rw[Zfp,Zfp,ih (by omega),hu,hO u (by rw[hu]at this;omega)]
 have hstopv:Stop W' v kv:=by
  refine⟨?_,λ j hj=>?_⟩
  ·obtain⟨u,hu,_⟩:=hcv kv (uJ _);have h1:=hno kv (uJ _);rw[hsame kv (uJ _),hu,bgW,hO u (by rw[hu]at h1;omega),<-hu];exact hkv.1
  ·obtain⟨u,hu,_⟩:=hcv j (by omega);have h1:=hno j (by omega);rw[hsame j (by omega),hu,bgW,hO u (by rw[hu]at h1;omega),<-hu];exact hkv.2 j hj
 have hstopt:Stop W' t (1+kv):=by
  have hb1:Zat W' (t:Int) 1=v:=by rw[Zfp];show(wAt W' (t:Int)).2.1=v;rw[hT]
  refine⟨by rw[ZhN,hb1];exact hstopv.1,λ j hj=>?_⟩;cases j with
  |zero=>show(wAt W' (t:Int)).2.2.2=false;rw[hT]
  |succ j=>rw[show j+1=1+j by omega,ZhN,hb1];exact hstopv.2 j (by omega)
 refine⟨by rw[<-hW'];simp[h.len],λ u hu=>?_,λ u hu=>?_,λ u hu hru=>?_,λ u hu hru=>?_⟩
 ·by_cases hut:u=t
  ·subst hut
   right
   refine⟨hrT,j+1,by omega,?_⟩;have:=Wk.step j v _ s hwk hs;rw[ht,uM]at this;rw[lgW,hT];exact this
  ·rw[hrO u hut,lgW,hO u hut];exact h.sound u hu
 ·have:=h.starts u hu;have:=hmono u;omega
 ·by_cases hut:u=t
  ·subst hut
   right
   refine⟨v,hv,(hrO v hvt).2 hr,by rw[hT],by rw[hT];exact hs,by rw[hT];exact ht,by rw[bgW,hT],?_⟩;rw[lgW,hT];exact Int.add_le_add_right (hmono v) _
  ·have hru':=(hrO u hut).1 hru;rcases h.par u hu hru' with⟨h1,h2⟩|⟨x,hx,hxr,h1,h2,h3,h4,h5⟩
   ·left;rw[hO u hut];exact⟨h1,h2⟩
   ·right
    refine⟨x,hx,?_,?_⟩
    ·by_cases hxt:x=t
     ·subst hxt;exact hrT
     ·exact(hrO x hxt).2 hxr
    ·rw[lgW,bgW,hO u hut];exact⟨h1,h2,h3,h4,An h5 (Int.add_le_add_right (hmono x) _)⟩
 ·by_cases hut:u=t
  ·subst hut;exact⟨_,hstopt⟩
  ·have hru':=(hrO u hut).1 hru;obtain⟨k,hk⟩:=h.chain u hu hru';have hcu:=Znb hp h hu hru' hk.2
   have hpre:∀i,i<=k->(∀j,j<i->Zat W u j≠(t:Int))->Zat W' u i=Zat W u i:=by
    intro i
    induction i with
    |zero=>intro _ _;rfl
    |succ i ih=>
     intro hi hno;obtain⟨x,hx,_⟩:=hcu i (by omega);have:=hno i (by omega);rw[Zfp,Zfp,ih (by omega) (λ j hj=>hno j (by omega)),hx,hO x (by rw[hx]at this;omega)]
   have hbg:∀i,i<=k->Zat W u i≠(t:Int)->bgW W' (Zat W u i)=bgW W (Zat W u i):=by
    intro i hi hne;obtain⟨x,hx,_⟩:=hcu i hi;rw[hx,bgW,bgW,hO x (by rw[hx]at hne;omega)]
   by_cases hmeet:∃i,i<=k/\Zat W u i=(t:Int)
   ·have least:∀m i,i<=m->i<=k->Zat W u i=(t:Int)->∃i,i<=k/\Zat W u i=(t:Int)/\∀j,j<i->Zat W u j≠(t:Int):=by
     intro m
     induction m with
     |zero=>intro i hi hik he;exact⟨i,hik,he,λ j hj=>by omega⟩
     |succ m ih=>
      intro i hi hik he;by_cases hex:∃j,j<i/\Zat W u j=(t:Int)
      ·obtain⟨j,hj,hje⟩:=hex;exact ih j (by omega) (by omega) hje
      ·exact⟨i,hik,he,λ j hj hje=>hex ⟨j,hj,hje⟩⟩
    obtain⟨i,hi,he⟩:=hmeet;obtain⟨i,hik,hie,hno2⟩:=least i i (uJ _) hi he;have e1:Zat W' u i=(t:Int):=by rw[hpre i hik hno2,hie]
    refine⟨i+(1+kv),by rw[ZhN,e1];exact hstopt.1,λ j hj=>?_⟩;rcases uE j i with h1|h1
    ·rw[hpre j (by omega) (λ j' hj'=>hno2 j' (by omega)),hbg j (by omega) (hno2 j h1)];exact hk.2 j (by omega)
    ·rw[show j=i+(j-i) by omega,ZhN,e1];exact hstopt.2 (j-i) (by omega)
   ·have hno2:∀i,i<=k->Zat W u i≠(t:Int):=λ i hi he=>hmeet ⟨i,hi,he⟩
    refine⟨k,?_,λ j hj=>?_⟩
    ·rw[hpre k (uJ _) (λ j hj=>hno2 j (by omega)),hbg k (uJ _) (hno2 k (uJ _))];exact hk.1
    ·rw[hpre j (by omega) (λ j' hj'=>hno2 j' (by omega)),hbg j (by omega) (hno2 j (by omega))];exact hk.2 j hj
end partV
section partX
variable {ST:Nat->List Stp}{S:Nat->Prop}{n:Nat}{p:Nat->Int}
structure InvQ (ST:Nat->List Stp)(n:Nat)(σ:LS)(rest:Int->Prop)(ex:Nat->Prop):Prop where
 lenW:σ.1.length=n
 lenB:σ.2.1.length=n
 wait:∀v:Nat,v<n->bAt σ.2.1 v=true->(v:Int)∈σ.2.2\/rest v
 sat:∀v:Nat,v<n->Rch σ.1 v->¬ex v->(∀s∈ST v,lgW σ.1 v+s.2.1<=(wAt σ.1 s.1).1)\/(v:Int)∈σ.2.2\/rest v
 pr:∀x,x∈σ.2.2\/rest x->0<=x/\x<(n:Int)
theorem Zqc {B:List Bool}{u v:Int}{x:Bool}(h1:0<=u)(h2:0<=v)(h3:v.toNat<B.length):bAt (B.set v.toNat x) u=if u=v then x else bAt B u:=by
 rw[bAt,qL];by_cases h:u=v
 ·subst h;rw[if_pos rfl,if_pos h3,if_pos rfl];rfl
 ·rw[if_neg (by omega),if_neg h];rfl
theorem ZCC {σ:LS}{rest:Int->Prop}{v:Nat}{s:Stp}(hg:Zc0 n ST)(h:InvQ ST n σ rest (·=v))(hs:s∈ST v):
  InvQ ST n (Zbi v σ s) rest (·=v)/\(∀u:Nat,lgW σ.1 u<=lgW (Zbi v σ s).1 u)/\lgW (Zbi v σ s).1 v=lgW σ.1 v/\lgW σ.1 v+s.2.1<=(wAt (Zbi v σ s).1 s.1).1:=by
 obtain⟨hvn,hs0,hsn,hsv,hl1,hl2⟩:=hg v s hs;by_cases hlt:(wAt σ.1 s.1).1<(wAt σ.1 v).1+s.2.1
 ·have hset:∀u:Nat,wAt (σ.1.set s.1.toNat ((wAt σ.1 v).1+s.2.1,v,s,false)) (u:Int)=if(u:Int)=s.1 then((wAt σ.1 v).1+s.2.1,(v:Int),s,false)else wAt σ.1 u:=
   λ u=>ZhE (by omega) hs0 (by rw[h.lenW];omega)
  have hsets:wAt (σ.1.set s.1.toNat ((wAt σ.1 v).1+s.2.1,v,s,false)) s.1=((wAt σ.1 v).1+s.2.1,(v:Int),s,false):=by
   rw[ZhE hs0 hs0 (by rw[h.lenW];omega),if_pos rfl]
  have hmono:∀u:Nat,lgW σ.1 u<=lgW (σ.1.set s.1.toNat ((wAt σ.1 v).1+s.2.1,v,s,false)) u:=λ u=>by
   rw[lgW,lgW,hset];split
   ·rename_i he;rw[he];dsimp only;omega
   ·exact qX _
  have hmono2:∀x:Int,0<=x->(wAt σ.1 x).1<=(wAt (σ.1.set s.1.toNat ((wAt σ.1 v).1+s.2.1,v,s,false)) x).1:=λ x hx=>by
   have:=hmono x.toNat
   rwa [lgW,lgW,show((x.toNat:Nat):Int)=x by omega]at this
  have hv':lgW (σ.1.set s.1.toNat ((wAt σ.1 v).1+s.2.1,v,s,false)) v=lgW σ.1 v:=by rw[lgW,lgW,hset,if_neg (by omega)]
  have hsat:∀u:Nat,u<n->Rch (σ.1.set s.1.toNat ((wAt σ.1 v).1+s.2.1,v,s,false)) u->¬u=v->(u:Int)≠s.1->
    (∀s'∈ST u,lgW (σ.1.set s.1.toNat ((wAt σ.1 v).1+s.2.1,v,s,false)) u+s'.2.1<=(wAt (σ.1.set s.1.toNat ((wAt σ.1 v).1+s.2.1,v,s,false)) s'.1).1)\/(u:Int)∈σ.2.2\/rest u:=by
   intro u hu hru hne hus;have e:lgW (σ.1.set s.1.toNat ((wAt σ.1 v).1+s.2.1,v,s,false)) u=lgW σ.1 u:=by rw[lgW,lgW,hset,if_neg hus]
   rw[Rch,e]at hru;rcases h.sat u hu hru hne with h1|h1
   ·left
    intro s' hs';have:=h1 s' hs';have:=hmono2 s'.1 (hg u s' hs').2.1;rw[e];omega
   ·exact .inr h1
  rcases hb:bAt σ.2.1 s.1 with _|_
  ·have er:Zbi v σ s=(σ.1.set s.1.toNat ((wAt σ.1 v).1+s.2.1,v,s,false),σ.2.1.set s.1.toNat true,σ.2.2++[s.1]):=by
    rw[Zbi,if_pos hlt,if_neg (by rw[hb];exact kA)]
   rw[er];refine⟨⟨by simp[h.lenW],by simp[h.lenB],λ u hu hbu=>?_,λ u hu hru hne=>?_,λ x hx=>?_⟩,hmono,hv',by dsimp only;rw[hsets];exact qX _⟩
   ·dsimp only at hbu|-;rw[Zqc (by omega) hs0 (by rw[h.lenB];omega)]at hbu;split at hbu
    ·rename_i he;left;rw[he];simp
    ·rcases h.wait u hu hbu with h1|h1
     ·left;exact Ch _ h1
     ·exact .inr h1
   ·by_cases hus:(u:Int)=s.1
    ·right;left;rw[hus];simp
    ·rcases hsat u hu hru hne hus with h1|h1|h1
     ·exact .inl h1
     ·exact .inr (.inl (Ch _ h1))
     ·exact .inr (.inr h1)
   ·rcases hx with hx|hx
    ·rcases yK.1 hx with hx|hx
     ·exact h.pr x (.inl hx)
     ·rw[uS.1 hx];exact⟨hs0,hsn⟩
    ·exact h.pr x (.inr hx)
  ·have er:Zbi v σ s=(σ.1.set s.1.toNat ((wAt σ.1 v).1+s.2.1,v,s,false),σ.2.1,σ.2.2):=by rw[Zbi,if_pos hlt,if_pos hb]
   rw[er];refine⟨⟨by simp[h.lenW],h.lenB,h.wait,λ u hu hru hne=>?_,h.pr⟩,hmono,hv',by dsimp only;rw[hsets];exact qX _⟩;by_cases hus:(u:Int)=s.1
   ·right
    have:=h.wait s.1.toNat (by omega) (by rw[show((s.1.toNat:Nat):Int)=s.1 by omega];exact hb)
    rwa [hus,show s.1=((s.1.toNat:Nat):Int) by omega]
   ·exact hsat u hu hru hne hus
 ·have er:Zbi v σ s=σ:=by rw[Zbi,if_neg hlt]
  rw[er];exact⟨h,λ u=>qX _,rfl,by simp only[lgW];omega⟩
theorem Zzm {σ:LS}{rest:Int->Prop}{v:Nat}(hg:Zc0 n ST)(hv:v<n)(h:InvQ ST n σ (λ x=>x=v\/rest x) (λ _=>False)):
  ∀i,i<=(ST v).length->InvQ ST n (Zbd (ST v) v σ i) rest (·=v)/\(∀u:Nat,lgW σ.1 u<=lgW (Zbd (ST v) v σ i).1 u)/\lgW (Zbd (ST v) v σ i).1 v=lgW σ.1 v/\
   ∀s∈(ST v).take i,lgW σ.1 v+s.2.1<=(wAt (Zbd (ST v) v σ i).1 s.1).1:=by
 intro i
 induction i with
 |zero=>
  intro _;refine⟨⟨h.lenW,by simp[Zbd,h.lenB],λ u hu hb=>?_,λ u hu hr hne=>?_,λ x hx=>?_⟩,λ u=>qX _,rfl,by simp⟩
  ·simp only[Zbd,yX,Cw]at hb|-;rw[Zqc (by omega) (by omega) (by rw[h.lenB];omega)]at hb;split at hb
   ·cases hb
   ·rename_i hne;rcases h.wait u hu hb with h1|h1|h1
    ·exact .inl h1
    ·exact absurd h1 hne
    ·exact .inr h1
  ·rcases h.sat u hu hr (λ h=>h)with h1|h1|h1|h1
   ·exact .inl h1
   ·exact .inr (.inl h1)
   ·exact absurd (by omega) hne
   ·exact .inr (.inr h1)
  ·rcases hx with hx|hx
   ·exact h.pr x (.inl hx)
   ·exact h.pr x (.inr (.inr hx))
 |succ i ih=>
  intro hi;obtain⟨h1,h2,h3,h4⟩:=ih (by omega);obtain⟨s,hs⟩:=Zac (show i<(ST v).length by omega);have hsm:=uA hs;obtain⟨r1,r2,r3,r4⟩:=ZCC hg h1 hsm;rw[ZjZ hs];refine⟨r1,λ u=>An (h2 u) (r2 u),r3.trans h3,λ s' hs'=>?_⟩;rw[ZaA hs]at hs';rcases yK.1 hs' with hs'|hs'
  ·have e:=h4 s' hs';have h0:=(hg v s' (gT hs')).2.1;have:=r2 s'.1.toNat;rw[lgW,lgW,show((s'.1.toNat:Nat):Int)=s'.1 by omega]at this;omega
  ·rw[uS.1 hs',<-h3];exact r4
theorem Zzl {σ:LS}{rest:Int->Prop}{v:Nat}(hg:Zc0 n ST)(hv:v<n)(h:InvQ ST n σ (λ x=>x=v\/rest x) (λ _=>False)):
  InvQ ST n (Zbd (ST v) v σ (ST v).length) rest (λ _=>False)/\(∀u:Nat,lgW σ.1 u<=lgW (Zbd (ST v) v σ (ST v).length).1 u)/\
   ∀s∈ST v,lgW σ.1 v+s.2.1<=(wAt (Zbd (ST v) v σ (ST v).length).1 s.1).1:=by
 obtain⟨h1,h2,h3,h4⟩:=Zzm hg hv h (ST v).length (uJ _);rw[uD (uJ _)]at h4;refine⟨⟨h1.lenW,h1.lenB,h1.wait,λ u hu hr _=>?_,h1.pr⟩,h2,h4⟩;by_cases huv:u=v
 ·subst huv;left;intro s hs;rw[h3];exact h4 s hs
 ·exact h1.sat u hu hr huv
theorem ZsM {σ:LS}(hg:Zc0 n ST)(h:InvQ ST n σ (λ _=>False) (λ _=>False)):
  ∀j,j<=σ.2.2.length->InvQ ST n (ZbB ST σ j) (λ x=>x∈σ.2.2.drop j) (λ _=>False)/\(∀u:Nat,lgW σ.1 u<=lgW (ZbB ST σ j).1 u)/\
   ∀x∈σ.2.2.take j,∀s∈ST x.toNat,lgW σ.1 x.toNat+s.2.1<=(wAt (ZbB ST σ j).1 s.1).1:=by
 intro j
 induction j with
 |zero=>
  intro _;refine⟨⟨h.lenW,h.lenB,λ u hu hb=>?_,λ u hu hr hne=>?_,λ x hx=>?_⟩,λ u=>qX _,by simp⟩
  ·rcases h.wait u hu hb with h1|h1
   ·right;simpa using h1
   ·exact h1.elim
  ·rcases h.sat u hu hr hne with h1|h1|h1
   ·exact .inl h1
   ·right;right;simpa using h1
   ·exact h1.elim
  ·rcases hx with hx|hx
   ·simp[ZbB]at hx
   ·exact h.pr x (.inl (by simpa using hx))
 |succ j ih=>
  intro hj;obtain⟨h1,h2,h3⟩:=ih (by omega);obtain⟨x,hx⟩:=Zac (show j<σ.2.2.length by omega);have hxb:=h.pr x (.inl (uA hx));have hdrop:σ.2.2.drop j=x::σ.2.2.drop (j+1):=by
   rw[qY (by omega)]
   congr 1
   rw[uR (by omega)]at hx;exact zR hx
  have h1':InvQ ST n (ZbB ST σ j) (λ y=>y=((x.toNat:Nat):Int)\/y∈σ.2.2.drop (j+1)) (λ _=>False):=by
   have hpe:∀y,y∈σ.2.2.drop j↔(y=((x.toNat:Nat):Int)\/y∈σ.2.2.drop (j+1)):=λ y=>by
    rw[hdrop,yF,show((x.toNat:Nat):Int)=x by omega]
   refine⟨h1.lenW,h1.lenB,λ u hu hb=>?_,λ u hu hr hne=>?_,λ y hy=>?_⟩
   ·rcases h1.wait u hu hb with h|h
    ·exact .inl h
    ·exact .inr ((hpe _).1 h)
   ·rcases h1.sat u hu hr hne with h|h|h
    ·exact .inl h
    ·exact .inr (.inl h)
    ·exact .inr (.inr ((hpe _).1 h))
   ·rcases hy with hy|hy
    ·exact h1.pr y (.inl hy)
    ·exact h1.pr y (.inr ((hpe _).2 hy))
  obtain⟨e1,e2,e3⟩:=Zzl hg (show x.toNat<n by omega) h1';rw[Zkc hx];rw[show((x.toNat:Nat):Int)=x by omega]at e1 e2 e3;refine⟨e1,λ u=>An (h2 u) (e2 u),λ y hy s hs=>?_⟩;rw[ZaA hx]at hy;rcases yK.1 hy with hy|hy
  ·have e:=h3 y hy s hs;have h0:=(hg y.toNat s hs).2.1;have:=e2 s.1.toNat;rw[lgW,lgW,show((s.1.toNat:Nat):Int)=s.1 by omega]at this;omega
  ·rw[uS.1 hy]at hs|-;have e:=e3 s hs;have:=h2 x.toNat;rw[lgW,lgW,show((x.toNat:Nat):Int)=x by omega]at this;rw[lgW,show((x.toNat:Nat):Int)=x by omega];rw[lgW,show((x.toNat:Nat):Int)=x by omega]at e;omega
theorem ZnQ {σ:LS}(hg:Zc0 n ST)(h:InvQ ST n σ (λ _=>False) (λ _=>False)):
  ∀k,InvQ ST n (ZaC ST σ k) (λ _=>False) (λ _=>False)/\∀u:Nat,lgW σ.1 u<=lgW (ZaC ST σ k).1 u:=by
 intro k
 induction k with
 |zero=>exact⟨h,λ u=>qX _⟩
 |succ k ih=>
  obtain⟨h1,h2,_⟩:=ZsM hg ih.1 _ (uJ _);refine⟨⟨h1.lenW,h1.lenB,λ u hu hb=>?_,λ u hu hr hne=>?_,λ x hx=>?_⟩,λ u=>An (ih.2 u) (h2 u)⟩
  ·rcases h1.wait u hu hb with h|h
   ·exact .inl h
   ·simp at h
  ·rcases h1.sat u hu hr hne with h|h|h
   ·exact .inl h
   ·exact .inr (.inl h)
   ·simp at h
  ·rcases hx with hx|hx
   ·exact h1.pr x (.inl hx)
   ·exact hx.elim
theorem Zmj {n:Nat}{st:List Int}(hst:∀x∈st,0<=x/\x<(n:Int)):∀j,j<=st.length->∀v:Nat,v<n->wAt (Zen n st j) v=if(v:Int)∈st.take j then ZdH else Zep:=by
 intro j
 induction j with
 |zero=>intro _ v hv;simp[Zen,wAt,hv]
 |succ j ih=>
  intro hj v hv;obtain⟨x,hx⟩:=Zac (show j<st.length by omega);have hxb:=hst x (uA hx);rw[ZuU hx,ZhE (by omega) hxb.1 (by rw[Zjm];omega),ih (by omega) v hv,ZaA hx];by_cases h:(v:Int)=x
  ·rw[if_pos h,if_pos (by rw[h];simp)]
  ·rw[if_neg h];simp[h]
theorem Zo6 {st:List Int}(hst:∀x∈st,0<=x/\x<(n:Int)):InvQ ST n (Zax n st) (λ _=>False) (λ _=>False):=by
 refine⟨Zjm _ _ _,by simp[Zax],λ v hv hb=>?_,λ v hv hr _=>?_,λ x hx=>?_⟩
 ·simp[Zax,bAt,hv]at hb
 ·right;left
  have:=Zmj hst st.length (uJ _) v hv;rw[Rch,lgW]at hr;simp only[Zax]at hr|-;rw[this]at hr;split at hr
  ·rename_i h;rwa [uD (uJ _)]at h
  ·exact absurd rfl hr
 ·rcases hx with hx|hx
  ·exact hst x hx
  ·exact hx.elim
theorem ZyB {q:Nat->Bool}:∀{m:Nat},Zb8 q m=none->∀j,j<m->q j=false:=by
 intro m
 induction m with
 |zero=>intro _ j hj;omega
 |succ m ih=>
  intro h j hj;rw[Zb8]at h;cases hm:Zb8 q m with
  |some i=>rw[hm]at h;simp at h
  |none=>
   rw[hm]at h;rcases uE j m with h1|h1
   ·exact ih hm j h1
   ·have:j=m:=by omega
    subst this;cases hq:q j with
    |false=>rfl
    |true=>simp[hq]at h
theorem Zsw {st:List Int}(hg:Zc0 n ST)(hst:∀x∈st,0<=x/\x<(n:Int)){W:List Way}(h:Zcj n ST st=some W):
  W.length=n/\(∀v:Nat,v<n->Rch W v->∀s∈ST v,lgW W v+s.2.1<=(wAt W s.1).1)/\∀v:Nat,v<n->(v:Int)∈st->0<=lgW W v:=by
 rw[Zcj]at h;cases hk:ZiR n ST st with
 |none=>rw[hk]at h;cases h
 |some k=>
  rw[hk]at h;simp only[qB,yI]at h;subst h;obtain⟨_,he,_⟩:=ZnC hk;have h0:=ZnQ hg (Zo6 (ST:=ST) hst) k;have hq:(ZaC ST (Zax n st) k).2.2=[]:=Ah.1 he;refine⟨h0.1.lenW,λ v hv hr=>?_,λ v hv hm=>?_⟩
  ·rcases h0.1.sat v hv hr (λ h=>h)with h1|h1|h1
   ·exact h1
   ·rw[hq]at h1;simp at h1
   ·exact h1.elim
  ·have:=h0.2 v;have e:=Zmj hst st.length (uJ _) v hv;rw[uD (uJ _),if_pos hm]at e;have:lgW (Zax n st).1 v=0:=by rw[lgW];simp only[Zax];rw[e];rfl
   omega
end partX
section partY
variable {ST:Nat->List Stp}{S:Nat->Prop}{n:Nat}{p:Nat->Int}
theorem ZnO {c c':Nat}{W:List Way}(h:InvW ST S n c W)(hc:c<=c'):InvW ST S n c' W:=
 ⟨h.len,λ v hv=>by
  rcases h.sound v hv with h1|⟨h1,j,hj,hw⟩
  ·exact .inl h1
  ·exact .inr ⟨h1,j,by omega,hw⟩,h.starts,h.par,h.chain⟩
theorem ZoL {c:Nat}{W:List Way}(hg:Zc0 n ST)(h:InvW ST S n c W){v:Nat}(hv:v<n)(hr:Rch W v):-(16777216*(c:Int))<=lgW W v:=by
 obtain⟨j,hj,hw⟩:=Zl5 h hv hr;have:=ZkK hg hw;omega
theorem Zt7 {c:Nat}{σ:LS}(hg:Zc0 n ST)(hc:c<=34359738368)(h:InvW ST S n c σ.1){v:Nat}{s:Stp}(hv:v<n)(hr:Rch σ.1 v)(hs:s∈ST v):
  ∀u,u<n->Rch σ.1 u->Rch (Zbi v σ s).1 u:=by
 intro u hu hru;obtain⟨hvn,hs0,hsn,hsv,hl1,hl2⟩:=hg v s hs;rw[Zbi];split
 ·rename_i hlt;rw[Rch,lgW];dsimp only;rw[ZhE (by omega) hs0 (by rw[h.len];omega)];split
  ·have:=ZoL hg h hv hr;rw[lgW]at this;dsimp only;omega
  ·exact hru
 ·exact hru
theorem ZCB {c:Nat}{σ:LS}(hg:Zc0 n ST)(hc:c+1<=34359738368)(h:InvW ST S n c σ.1){v:Nat}{s:Stp}(hv:v<n)(hr:Rch σ.1 v)(hs:s∈ST v)
  (hq:∀x∈σ.2.2,0<=x/\x<(n:Int)/\Rch σ.1 x.toNat):∀x∈(Zbi v σ s).2.2,0<=x/\x<(n:Int)/\Rch (Zbi v σ s).1 x.toNat:=by
 intro x hx;have hrr:=Zt7 hg (by omega) h hv hr hs;obtain⟨hvn,hs0,hsn,hsv,hl1,hl2⟩:=hg v s hs;by_cases hlt:(wAt σ.1 s.1).1<(wAt σ.1 v).1+s.2.1
 ·rcases hb:bAt σ.2.1 s.1 with _|_
  ·have er:Zbi v σ s=(σ.1.set s.1.toNat ((wAt σ.1 v).1+s.2.1,v,s,false),σ.2.1.set s.1.toNat true,σ.2.2++[s.1]):=by
    rw[Zbi,if_pos hlt,if_neg (by rw[hb];exact kA)]
   rw[er]at hx hrr|-;rcases yK.1 hx with hx|hx
   ·obtain⟨h1,h2,h3⟩:=hq x hx;exact⟨h1,h2,hrr _ (by omega) h3⟩
   ·rw[uS.1 hx];refine⟨hs0,hsn,?_⟩;rw[Rch,lgW];dsimp only;rw[ZhE (by omega) hs0 (by rw[h.len];omega),if_pos (by omega)];have:=ZoL hg h hv hr;rw[lgW]at this;dsimp only;omega
  ·have er:Zbi v σ s=(σ.1.set s.1.toNat ((wAt σ.1 v).1+s.2.1,v,s,false),σ.2.1,σ.2.2):=by rw[Zbi,if_pos hlt,if_pos hb]
   rw[er]at hx hrr|-;obtain⟨h1,h2,h3⟩:=hq x hx;exact⟨h1,h2,hrr _ (by omega) h3⟩
 ·have er:Zbi v σ s=σ:=by rw[Zbi,if_neg hlt]
  rw[er]at hx|-;exact hq x hx
theorem Zzn {c:Nat}{σ:LS}(hp:Pot ST p)(hg:Zc0 n ST)(hc:c+2<=34359738368)(h:InvW ST S n c σ.1){v:Nat}(hv:v<n)(hr:Rch σ.1 v)(hq:∀x∈σ.2.2,0<=x/\x<(n:Int)/\Rch σ.1 x.toNat):
  ∀i,i<=(ST v).length->InvW ST S n (c+1) (Zbd (ST v) v σ i).1/\(∀u,u<n->Rch σ.1 u->Rch (Zbd (ST v) v σ i).1 u)/\(∀x∈(Zbd (ST v) v σ i).2.2,0<=x/\x<(n:Int)/\Rch (Zbd (ST v) v σ i).1 x.toNat)/\
   lgW (Zbd (ST v) v σ i).1 v=lgW σ.1 v:=by
 intro i
 induction i with
 |zero=>intro _;exact⟨ZnO h (by omega),λ u _ hu=>hu,hq,rfl⟩
 |succ i ih=>
  intro hi;obtain⟨h1,h2,h3,h4⟩:=ih (by omega);obtain⟨s,hs⟩:=Zac (show i<(ST v).length by omega);have hsm:=uA hs;have hrv:=h2 v hv hr;have hb:=hg v s hsm;rw[ZjZ hs];have hrel:=Zt7 hg (by omega) h1 hv hrv hsm;have hpen:=ZCB hg (by omega) h1 hv hrv hsm h3;refine⟨?_,λ u hu hru=>hrel u hu (h2 u hu hru),hpen,?_⟩
  ·obtain⟨j,hj,hw⟩:=Zl5 h hv hr;rw[<-h4]at hw;by_cases hlt:(wAt (Zbd (ST v) v σ i).1 s.1).1<(wAt (Zbd (ST v) v σ i).1 v).1+s.2.1
   ·have:=ZCy hp hg (by omega) h1 hv hrv ⟨j,hj,hw⟩ hsm hlt;rw[Zbi,if_pos hlt];exact this
   ·rw[Zbi,if_neg hlt];exact h1
  ·rw[<-h4,Zbi];split
   ·rw[lgW,lgW];dsimp only;rw[ZhE (by omega) hb.2.1 (by rw[h1.len];omega),if_neg (by omega)]
   ·rfl
theorem ZAn {c:Nat}{σ:LS}(hp:Pot ST p)(hg:Zc0 n ST)(hc:c+σ.2.2.length+2<=34359738368)(h:InvW ST S n c σ.1)(hq:∀x∈σ.2.2,0<=x/\x<(n:Int)/\Rch σ.1 x.toNat):
  ∀j,j<=σ.2.2.length->InvW ST S n (c+j) (ZbB ST σ j).1/\(∀u,u<n->Rch σ.1 u->Rch (ZbB ST σ j).1 u)/\(∀x∈(ZbB ST σ j).2.2,0<=x/\x<(n:Int)/\Rch (ZbB ST σ j).1 x.toNat):=by
 intro j
 induction j with
 |zero=>intro _;exact⟨h,λ u _ hu=>hu,by simp[ZbB]⟩
 |succ j ih=>
  intro hj;obtain⟨h1,h2,h3⟩:=ih (by omega);obtain⟨x,hx⟩:=Zac (show j<σ.2.2.length by omega);obtain⟨hx0,hxn,hxr⟩:=hq x (uA hx);obtain⟨e1,e2,e3,_⟩:=Zzn hp hg (by omega) h1 (v:=x.toNat) (by omega) (h2 _ (by omega) hxr) h3 _ (uJ _);rw[Zkc hx];rw[show((x.toNat:Nat):Int)=x by omega]at e1 e2 e3;exact⟨by rw[<-kX];exact e1,λ u hu hru=>e2 u hu (h2 u hu hru),e3⟩
theorem ZEB {st:List Int}(hst:∀x∈st,0<=x/\x<(n:Int)):InvW ST (λ v=>(v:Int)∈st) n 0 (Zax n st).1/\∀x∈(Zax n st).2.2,0<=x/\x<(n:Int)/\Rch (Zax n st).1 x.toNat:=by
 have hat:=Zmj hst st.length (uJ _);rw[uD (uJ _)]at hat;have hin:∀v:Nat,v<n->(v:Int)∈st->wAt (Zax n st).1 v=ZdH:=λ v hv hm=>by simp only[Zax];rw[hat v hv,if_pos hm]
 have hout:∀v:Nat,v<n->¬(v:Int)∈st->wAt (Zax n st).1 v=Zep:=λ v hv hm=>by simp only[Zax];rw[hat v hv,if_neg hm]
 have hrin:∀v:Nat,v<n->(v:Int)∈st->Rch (Zax n st).1 v:=λ v hv hm=>by rw[Rch,lgW,hin v hv hm];simp[ZdH]
 have hrout:∀v:Nat,v<n->Rch (Zax n st).1 v->(v:Int)∈st:=λ v hv hr=>by
  by_cases hm:(v:Int)∈st
  ·exact hm
  ·rw[Rch,lgW,hout v hv hm]at hr;exact absurd rfl hr
 refine⟨⟨Zjm _ _ _,λ v hv=>?_,λ v hv=>?_,λ v hv hr=>?_,λ v hv hr=>?_⟩,λ x hx=>?_⟩
 ·by_cases hm:(v:Int)∈st
  ·right
   refine⟨hrin v hv hm,0,uJ _,?_⟩;rw[lgW,hin v hv hm];exact .start v hm
  ·left;exact hout v hv hm
 ·have:=hst _ hv;refine⟨by omega,?_⟩;rw[lgW,hin v (by omega) hv];simp[ZdH]
 ·have hm:=hrout v hv hr;exact .inl ⟨hin v hv hm,hm⟩
 ·have hm:=hrout v hv hr;refine⟨0,?_,λ j hj=>by omega⟩;show(wAt (Zax n st).1 (v:Int)).2.2.2=true;rw[hin v hv hm];rfl
 ·have hb:=hst x hx;exact⟨hb.1,hb.2,hrin x.toNat (by omega) (by rw[show((x.toNat:Nat):Int)=x by omega];exact hx)⟩
theorem ZyW (hg:Zc0 n ST):∀v:Nat,v<n->ZhK n v (ST v):=λ v _ s hs=>by
 have:=hg v s hs;exact⟨this.2.1,this.2.2.1,this.2.2.2.1,this.2.2.2.2.1,this.2.2.2.2.2⟩
section search
variable {st:List Int}(hp:Pot ST p)(hg:Zc0 n ST)(hn:n<=2048)(hst:∀x∈st,0<=x/\x<(n:Int))(hsl:st.length<=n)
include hp hg hn hst hsl
theorem ZnR :∀k,k<=n+1->InvW ST (λ v=>(v:Int)∈st) n (4198400*k) (ZaC ST (Zax n st) k).1/\∀x∈(ZaC ST (Zax n st) k).2.2,0<=x/\x<(n:Int)/\Rch (ZaC ST (Zax n st) k).1 x.toNat:=by
 intro k
 induction k with
 |zero=>intro _;exact ZEB hst
 |succ k ih=>
  intro hk;obtain⟨h1,h2⟩:=ih (by omega);have hq:=(Zr4 hn (ZuV hst) hsl (ZyW hg) k (by omega)).2;have:n*(k+1)<=2048*2050:=kZ hn (by omega);obtain⟨e1,_,e3⟩:=ZAn hp hg (by omega) h1 h2 _ (uJ _);exact⟨ZnO e1 (by omega),e3⟩
theorem Zzy :∀k,k<=n+1->∀j v d,j<=k->Wk ST (λ v=>(v:Int)∈st) j v d->Rch (ZaC ST (Zax n st) k).1 v/\d<=lgW (ZaC ST (Zax n st) k).1 v:=by
 have hS:∀v:Nat,(v:Int)∈st->v<n:=λ v hv=>by have:=hst _ hv;omega
 intro k
 induction k with
 |zero=>
  intro _ j v d hj hw;have hj0:j=0:=by omega
  subst hj0;cases hw with
  |start _ h=>
   have hv:=hS v h;have e:=Zmj hst st.length (uJ _) v hv;rw[uD (uJ _),if_pos h]at e;rw[Rch,lgW];simp only[ZaC,Zax];rw[e];simp[ZdH]
 |succ k ih=>
  intro hk j v d hj hw;have hvn:=Zjv hg hS hw;have hbd:=ZkK hg hw;obtain⟨hw1,hw2⟩:=ZnR hp hg hn hst hsl k (by omega);have hq:=(ZnQ hg (Zo6 (ST:=ST) hst) k).1;obtain⟨q1,q2,q3⟩:=ZsM hg hq _ (uJ _);have key:d<=lgW (ZaC ST (Zax n st) (k+1)).1 v->Rch (ZaC ST (Zax n st) (k+1)).1 v/\d<=lgW (ZaC ST (Zax n st) (k+1)).1 v:=λ h=>
   ⟨by rw[Rch];omega,h⟩
  rcases uE k j with hkj|hkj
  ·have hj1:j=k+1:=by omega
   subst hj1;cases hw with
   |step _ u d0 s hu hs=>
    have hun:=Zjv hg hS hu;have hs0:=(hg u s hs).2.1;obtain⟨i1,i2⟩:=ih (by omega) k u d0 (uJ _) hu;refine key ?_;have e:((s.1.toNat:Nat):Int)=s.1:=by omega
    rw[lgW,e];have hm:=q2 s.1.toNat;rw[lgW,lgW,e]at hm;have hmid:ZaC ST (Zax n st) (k+1)=ZbB ST (ZaC ST (Zax n st) k) (ZaC ST (Zax n st) k).2.2.length:=rfl;rw[hmid];rcases hq.sat u hun i1 (λ h=>h)with h1|h1|h1
    ·have:=h1 s hs;omega
    ·rw[uD (uJ _)]at q3;have:=q3 u h1 s (by rw[uM];exact hs);rw[uM]at this;omega
    ·exact h1.elim
  ·obtain⟨i1,i2⟩:=ih (by omega) j v d hkj hw;exact key (An i2 (q2 v))
theorem Zuu :∃W,Zcj n ST st=some W/\InvW ST (λ v=>(v:Int)∈st) n 8606720000 W/\(∀v d,Opt ST (λ v=>(v:Int)∈st) v d->Rch W v/\lgW W v=d)/\
  (∀v:Nat,v<n->Rch W v->Opt ST (λ v=>(v:Int)∈st) v (lgW W v)/\∀s∈ST v,lgW W v+s.2.1<=(wAt W s.1).1):=by
 have hS:∀v:Nat,(v:Int)∈st->v<n:=λ v hv=>by have:=hst _ hv;omega
 obtain⟨lo,hlo⟩:∃lo:Int,∀v:Nat,(v:Int)∈st->lo<=p v:=by
  have:∀m:Nat,∃lo:Int,∀v:Nat,v<m->lo<=p v:=by
   intro m
   induction m with
   |zero=>exact⟨0,λ v hv=>by omega⟩
   |succ m ih=>
    obtain⟨lo,h⟩:=ih;refine⟨min lo (p m),λ v hv=>?_⟩;rcases uE v m with h1|h1
    ·have:=h v h1;omega
    ·have:v=m:=by omega
     subst this;omega
  obtain⟨lo,h⟩:=this n;exact⟨lo,λ v hv=>h v (hS v hv)⟩
 have hsome:∃k,ZiR n ST st=some k:=by
  cases he:ZiR n ST st with
  |some k=>exact⟨k,rfl⟩
  |none=>
   exfalso;have hall:=ZyB he;rcases qM n with h0|hpos
   ·have h1:=hall 0 (by omega);have:st=[]:=by
     cases st with
     |nil=>rfl
     |cons x l=>have:=hst x (by simp);omega
    subst this;simp[ZaC,Zax]at h1
   ·obtain⟨k,hk⟩:∃k,n=k+1:=⟨n-1,by omega⟩;have hprog:=Zzy hp hg hn hst hsl k (by omega);obtain⟨hw1,hw2⟩:=ZnR hp hg hn hst hsl k (by omega);have hq:=(ZnQ hg (Zo6 (ST:=ST) hst) k).1;have hopt:∀v d,Opt ST (λ v=>(v:Int)∈st) v d->d<=lgW (ZaC ST (Zax n st) k).1 v:=λ v d h=>by
     obtain⟨i,hi,hw⟩:=Zop hg hS h;exact(hprog i v d (by omega) hw).2
    have hsat:∀v:Nat,v<n->Rch (ZaC ST (Zax n st) k).1 v->∀s∈ST v,lgW (ZaC ST (Zax n st) k).1 v+s.2.1<=(wAt (ZaC ST (Zax n st) k).1 s.1).1:=by
     intro v hv hr s hs;obtain⟨j,_,hw⟩:=Zl5 hw1 hv hr;have h1:=Wk.step j v _ s hw hs;obtain⟨d',hd'⟩:=Zs8 hp hlo h1;have:=hopt _ _ hd';have h2:=hd'.2 _ _ h1;rw[lgW,show((s.1.toNat:Nat):Int)=s.1 by have:=(hg v s hs).2.1;omega]at this;omega
    have hquiet:∀j,j<=(ZaC ST (Zax n st) k).2.2.length->(ZbB ST (ZaC ST (Zax n st) k) j).1=(ZaC ST (Zax n st) k).1/\(ZbB ST (ZaC ST (Zax n st) k) j).2.2=[]:=by
     intro j
     induction j with
     |zero=>intro _;exact⟨rfl,rfl⟩
     |succ j ih=>
      intro hj;obtain⟨e1,e2⟩:=ih (by omega);obtain⟨x,hx⟩:=Zac (show j<(ZaC ST (Zax n st) k).2.2.length by omega);obtain⟨hx0,hxn,hxr⟩:=hw2 x (uA hx);rw[Zkc hx];have hin:∀i,i<=(ST x.toNat).length->(Zbd (ST x.toNat) x (ZbB ST (ZaC ST (Zax n st) k) j) i).1=(ZaC ST (Zax n st) k).1/\(Zbd (ST x.toNat) x (ZbB ST (ZaC ST (Zax n st) k) j) i).2.2=[]:=by
       intro i
       induction i with
       |zero=>intro _;exact⟨e1,e2⟩
       |succ i ih2=>
        intro hi;obtain⟨f1,f2⟩:=ih2 (by omega);obtain⟨s,hs⟩:=Zac (show i<(ST x.toNat).length by omega);have:=hsat x.toNat (by omega) hxr s (uA hs);rw[lgW,show((x.toNat:Nat):Int)=x by omega]at this;rw[ZjZ hs,Zbi,f1,if_neg (by omega)];exact⟨f1,f2⟩
      exact hin _ (uJ _)
    have h1:=hall n (by omega);have:(ZaC ST (Zax n st) n).2.2=[]:=by
     subst hk;exact(hquiet _ (uJ _)).2
    rw[this]at h1;cases h1
 obtain⟨k,hk⟩:=hsome;have hW:Zcj n ST st=some (ZaC ST (Zax n st) k).1:=by rw[Zcj,hk];rfl
 have hkn:=(ZnC hk).1;have hwn:=(ZnR hp hg hn hst hsl k (by omega)).1;obtain⟨l1,l2,l3⟩:=Zsw hg hst hW;have hwalk:∀j v d,Wk ST (λ v=>(v:Int)∈st) j v d->Rch (ZaC ST (Zax n st) k).1 v/\d<=lgW (ZaC ST (Zax n st) k).1 v:=by
  intro j v d hw
  induction hw with
  |start v h=>
   have hv:=hS v h;have:=l3 v hv h;exact⟨by rw[Rch];omega,this⟩
  |step j v d s hw hs ih=>
   have hvn:=Zjv hg hS hw;have hb:=hg v s hs;have:=l2 v hvn ih.1 s hs;have hlow:=ZoL hg hwn hvn ih.1;have e:lgW (ZaC ST (Zax n st) k).1 s.1.toNat=(wAt (ZaC ST (Zax n st) k).1 s.1).1:=by rw[lgW,show((s.1.toNat:Nat):Int)=s.1 by omega]
   rw[Rch,e];have hk2:(4198400*k:Nat)<=8606720000:=by omega
   exact⟨by omega,by omega⟩
 have hop:∀v:Nat,v<n->Rch (ZaC ST (Zax n st) k).1 v->Opt ST (λ v=>(v:Int)∈st) v (lgW (ZaC ST (Zax n st) k).1 v):=λ v hv hr=>by
  obtain⟨j,_,hw⟩:=Zl5 hwn hv hr;exact⟨⟨j,hw⟩,λ j d hw=>(hwalk j v d hw).2⟩
 refine⟨_,hW,ZnO hwn (by omega),λ v d h=>?_,λ v hv hr=>⟨hop v hv hr,l2 v hv hr⟩⟩;obtain⟨j,hw⟩:=h.1;obtain⟨r1,r2⟩:=hwalk j v d hw;exact⟨r1,Zoo (hop v (Zjv hg hS hw) r1) h⟩
end search
end partY
end Go.Proofs.YtjjbhjnpeenbkaaGreatDoor.Sx
