/- Merging sorted lists: what the library's symmetric merge, its rotation and its blocks rest on (no program in sight). -/
import Derived.Test.YtjjbhjnpeenbkaaGreatDoorPSMac
import Derived.Test.YtjjbhjnpeenbkaaGreatDoorPSFam
import Derived.Stop.Joined
import Derived.Lib.LaidTab
import Derived.Stop.LaidErr
set_option linter.unusedSimpArgs false
set_option linter.unusedVariables false
set_option maxHeartbeats 16000000
namespace Go.Stb
variable {α:Type}{R:α->α->Prop}
theorem ZuP (h:Ord R){l:List α}{x z:α}(hs:l.Pairwise R)(hz:l.getLast?=some z)(hx:x∈l):x=z\/R x z:=by
 obtain⟨l',rfl⟩:∃l',l=l'++[z]:=by
  rcases Bb l with rfl|⟨l',w,rfl⟩
  ·simp at hz
  ·refine⟨l',?_⟩;rw[Bc]at hz|-;simp at hz;rw[hz]
 rcases yN.1 hx with hx|hx
 ·exact .inr ((yX.1 hs).2.2 x hx z (by simp))
 ·exact .inl (uR.1 hx)
theorem Zlq (h:Ord R){l:List α}{x z:α}(hs:l.Pairwise R)(hz:l.head?=some z)(hx:x∈l):x=z\/R z x:=by
 cases l with
 |nil=>cases hx
 |cons w l=>
  have:w=z:=by simpa using hz
  subst this;rcases yH.1 hx with rfl|hx
  ·exact .inl rfl
  ·exact .inr ((jG.1 hs).1 x hx)
theorem ZoW (h:Ord R){u v:List α}(su:u.Pairwise R)(sv:v.Pairwise R)(huv:∀x,u.getLast?=some x->∀y,v.head?=some y->R x y):(u++v).Pairwise R:=by
 refine yX.2 ⟨su,sv,λ x hx y hy=>?_⟩;obtain⟨z,hz⟩:∃z,u.getLast?=some z:=by
  cases hu:u.getLast? with
  |none=>rw[List.getLast?_eq_none_iff]at hu;subst hu;cases hx
  |some z=>exact⟨z,rfl⟩
 obtain⟨w,hw⟩:∃w,v.head?=some w:=by
  cases v with
  |nil=>cases hy
  |cons w v=>exact⟨w,rfl⟩
 have hzw:=huv z hz w hw;have hxw:R x w:=by
  rcases ZuP h su hz hx with rfl|h3
  ·exact hzw
  ·exact h.trans x z w h3 hzw
 rcases Zlq h sv hw hy with rfl|h4
 ·exact hxw
 ·exact h.trans x w y hxw h4
theorem Zlz {l:List α}{k:Nat}{x:α}(hk:k<=l.length)(h:(l.take k).getLast?=some x):0<k/\l[k-1]? =some x:=by
 rcases qT k with rfl|h0
 ·simp at h
 ·refine⟨h0,?_⟩;rw[List.getLast?_eq_getElem?,uS,jA hk,qC,if_pos (by omega)]at h;exact h
theorem Zlp {l:List α}{k:Nat}{x:α}(h:(l.drop k).head?=some x):l[k]? =some x:=by
 rw[List.head?_drop]at h;exact h
theorem Zl8 (h:Ord R){A:List α}{y:α}{i:Nat}(hi:i<=A.length)(hA:A.Pairwise R)(h1:∀x,0<i->A[i-1]? =some x->R x y)(h2:∀x,A[i]? =some x->R y x):
  (A.take i++y::A.drop i).Pairwise R:=by
 have sp:=yU i A;rw[<-sp]at hA;obtain⟨s1,s2,_⟩:=yX.1 hA;have e:A.take i++y::A.drop i=(A.take i++[y])++A.drop i:=by simp
 rw[e];refine ZoW h (ZoW h s1 (jY _ _) λ x hx z hz=>?_) s2 λ x hx z hz=>?_
 ·obtain⟨h3,h4⟩:=Zlz hi hx;have:y=z:=by simpa using hz
  subst this;exact h1 x h3 h4
 ·have:y=x:=by simpa using hx
  subst this;exact h2 z (Zlp hz)
theorem Zvg (h:Ord R){A B T:List α}{k q:Nat}(hk:k<=A.length)(hq:q<=B.length)(hA:A.Pairwise R)(hB:B.Pairwise R)(hT:T.Pairwise R)(hp:T.Perm (A++B))(hn:(A++B).Nodup)
  (h1:∀x y,0<k->A[k-1]? =some x->B[q]? =some y->R x y)(h2:∀x y,0<q->B[q-1]? =some x->A[k]? =some y->R x y):
  ∃T1 T2,T=T1++T2/\T1.Perm (A.take k++B.take q)/\T2.Perm (A.drop k++B.drop q)/\T1.Pairwise R/\T2.Pairwise R:=by
 have ea:=yU k A;have eb:=yU q B;have hpp:(A++B).Perm ((A.take k++B.take q)++(A.drop k++B.drop q)):=by
  have e1:A++B=A.take k++(A.drop k++B.take q)++B.drop q:=by
   rw[<-yP (A.take k),ea,yP,eb]
  have e2:(A.take k++B.take q)++(A.drop k++B.drop q)=A.take k++(B.take q++A.drop k)++B.drop q:=by simp
  rw[e1,e2];exact(List.perm_append_comm.append_left _).append_right _
 refine ZyO h (hp.trans hpp) hT ?_ (hpp.nodup_iff.1 hn);refine Zlo h (by rw[ea];exact hA) (by rw[eb];exact hB) (λ x hx y hy=>?_) (λ x hx y hy=>?_)
 ·obtain⟨c1,c2⟩:=Zlz hk hx;exact h1 x y c1 c2 (Zlp hy)
 ·obtain⟨c1,c2⟩:=Zlz hq hx;exact h2 x y c1 c2 (Zlp hy)
end Go.Stb
namespace Go.Cy
open Go.Bd (Part)
abbrev NA :=Nat×Nat
def Acy (l:List NA):Prop:=∃r:Nat->Nat,∀a,a∈l->a.1≠a.2->r a.1<r a.2
def InN (n:Nat)(l:List NA):Prop:=∀a,a∈l->a.1<n/\a.2<n
def Src (l:List NA)(G:List Nat)(v:Nat):Prop:=∀a,a∈l->a.2=v->a.1≠v->a.1∈G
def Zgu (l:List NA)(G:List Nat):Prop:=∃r:Nat->Nat,(∀v,v∈G->r v<G.length)/\∀a,a∈l->a.1≠a.2->a.2∈G->a.1∈G/\r a.1<r a.2
theorem Zgu.cons {l:List NA}{G:List Nat}{v:Nat}(h:Zgu l G)(hv:v∉G)(hs:Src l G v):Zgu l (v::G):=by
 obtain⟨r,h1,h2⟩:=h;refine⟨λ u=>if u=v then G.length else r u,?_,?_⟩
 ·intro u hu;dsimp only;by_cases c:u=v
  ·simp[c]
  ·rw[if_neg c];have:=h1 u (by simpa[c]using hu);simp;omega
 ·intro a ha hn h3;dsimp only;by_cases c:a.2=v
  ·have h4:=hs a ha c (by rw[<-c];exact hn);have h5:a.1≠v:=λ h=>hv (h▸h4)
   refine⟨uM _ h4,?_⟩;rw[if_neg h5,if_pos c];exact h1 _ h4
  ·have h4:=h2 a ha hn (by simpa[c]using h3);have h5:a.1≠v:=λ h=>hv (h▸h4.1)
   refine⟨uM _ h4.1,?_⟩;rw[if_neg h5,if_neg c];exact h4.2
theorem Zgu.all {n:Nat}{l:List NA}{G:List Nat}(h:Zgu l G)(hi:InN n l)(hg:∀v,v<n->v∈G):Acy l:=by
 obtain⟨r,_,h2⟩:=h;exact⟨r,λ a ha hn=>(h2 a ha hn (hg _ (hi a ha).2)).2⟩
theorem nd_le :∀{n:Nat} {G:List Nat},G.Nodup->(∀v,v∈G->v<n)->G.length<=n
 |0,[],_,_=>by simp
 |0,v::_,_,h=>by have:=h v (by simp);omega
 |n+1,G,hn,h=>by
  have:= @nd_le n (G.erase n) (hn.erase _) λ v hv=>by
   have h1:=(List.Nodup.mem_erase_iff hn).1 hv;have:=h v h1.2;omega
  have:=List.length_erase_le (a:=n) (l:=G);have:G.length<=(G.erase n).length+1:=by rw[List.length_erase];split<;>omega
  omega
theorem Zpu :∀{n:Nat} {G:List Nat},G.Nodup->(∀v,v∈G->v<n)->n<=G.length->∀v,v<n->v∈G:=by
 intro n G hn h hl v hv;refine Decidable.byContradiction λ hc=>?_
 have:= @nd_le n (v::G) (yS.2 ⟨hc,hn⟩) λ u hu=>by
  rcases yH.1 hu with rfl|hu
  ·exact hv
  ·exact h u hu
 simp at this;omega
def Zna (n:Nat)(l:List NA)(G:List Nat):Prop:=∀v,v<n->v∉G->¬Src l G v
theorem Zy3 {n:Nat}{l:List NA}{G:List Nat}(hi:InN n l)(ha:Acy l)(hs:Zna n l G):∀v,v<n->v∈G:=by
 obtain⟨r,hr⟩:=ha;have:∀(k v:Nat),r v<k->v<n->v∈G:=by
  intro k
  induction k with
  |zero=>intro v h;omega
  |succ k ih=>
   intro v hk hv;refine Decidable.byContradiction λ hc=>hs v hv hc ?_
   intro a ha h2 h1;have h3:=hr a ha (by rw[h2];exact h1);rw[h2]at h3;exact ih a.1 (by omega) (hi a ha).1
 exact λ v hv=>this (r v+1) v (by omega) hv
def Zcs (l:List NA)(set:List Nat):List NA:=l.mapIdx λ i a=>if i∈set then(a.2,a.1)else a
theorem flipN_get {l:List NA}{set:List Nat}{k:Nat}{a:NA}(h:l[k]? =some a):(Zcs l set)[k]? =some (if k∈set then(a.2,a.1)else a):=by
 simp[Zcs,List.getElem?_mapIdx,h]
theorem flipN_len (l:List NA)(set:List Nat):(Zcs l set).length=l.length:=by simp[Zcs]
theorem flipN_mem {l:List NA}{set:List Nat}{b:NA}(h:b∈Zcs l set):∃k a,l[k]? =some a/\b=if k∈set then(a.2,a.1)else a:=by
 obtain⟨k,hk⟩:=jR.1 h;have hlt:k<l.length:=by have:=(uB.1 hk).1;rw[flipN_len]at this;exact this
 refine⟨k,l[k],uL hlt,?_⟩;have:=flipN_get (set:=set) (uL hlt);rw[hk]at this;exact Option.some.inj this
abbrev Asc (l:List Nat):Prop:=l.Pairwise (·<·)
def ZhT (l:List NA)(set:List Nat):Prop:=Asc set/\∀i,i∈set->∃a,l[i]? =some a/\a.1≠a.2
def bwd (M:List Nat)(a:NA):Bool:=decide (M.idxOf a.2<M.idxOf a.1)
def Zjk (M:List Nat)(l:List NA)(i:Nat):Bool:=match l[i]? with
 |some a=>bwd M a
 |none=>false
def ZcK (M:List Nat)(l:List NA):List Nat:=(List.range l.length).filter (Zjk M l)
theorem Zva {M:List Nat}{l:List NA}{i:Nat}:i∈ZcK M l↔∃a,l[i]? =some a/\bwd M a=true:=by
 simp only[ZcK,Aa,yD,Zjk];constructor
 ·rintro⟨h1,h2⟩;rw[uL h1]at h2|-;exact⟨_,rfl,h2⟩
 ·rintro⟨a,h1,h2⟩;refine⟨(uB.1 h1).1,?_⟩;rw[h1];exact h2
theorem ZsJ {M:List Nat}{a:NA}(h:bwd M a=true):a.1≠a.2:=by
 intro e;simp only[bwd,uG,e]at h;omega
theorem Zul {M:List Nat}{u v:Nat}(hu:u∈M)(hv:v∈M)(h:M.idxOf u=M.idxOf v):u=v:=by
 have h1:=Ca (jJ hu);have h2:=Ca (jJ hv);simp only[h]at h1;exact h1.symm.trans h2
theorem Part.mem {n:Nat}{M:List Nat}(h:Part n 0 M){v:Nat}(hv:v<n):v∈M:=Zpu h.nd h.lt (by have:=h.len;omega) v hv
theorem ZpV {a b:List Nat}(h:a.Perm b):a.sum=b.sum:=by
 induction h with
 |nil=>rfl
 |cons x _ ih=>simp[ih]
 |swap x y l=>simp;omega
 |trans _ _ h1 h2=>exact h1.trans h2
theorem ZjP {α:Type}{l:List α}:l.reverse.Nodup↔l.Nodup:=by
 simp only[List.Nodup,List.pairwise_reverse,ne_comm]
def bkR (c:Nat->Nat->Nat):List Nat->Nat
 |[]=>0
 |v::P=>bkR c P+(P.map (c v)).sum
def ZdT (F:Nat->Nat->Bool):List Nat->Prop
 |[]=>True
 |v::P=>ZdT F P/\∀u,F v u=true->u∈P
def bits (n s:Nat):List Nat:=(List.range n).filter λ u=>s.testBit u
theorem mem_bits {n s u:Nat}:u∈bits n s↔u<n/\s.testBit u=true:=by simp[bits]
theorem clr :∀s,s<256->∀v,v<8->s.testBit v=true->s-2^v<s/\∀u,u<8->(s-2^v).testBit u=(s.testBit u&& !decide (u=v)):=by decide+kernel
def inB (n a b:Nat):Bool:=(List.range n).all λ u=> !a.testBit u||b.testBit u
theorem inB_iff {n a b:Nat}:inB n a b=true↔∀u,u<n->a.testBit u=true->b.testBit u=true:=by
 simp only[inB,uW,yD,qY,yK];constructor
 ·intro h u hu ha;rcases h u hu with h|h
  ·rw[h]at ha;cases ha
  ·exact h
 ·intro h u hu;cases ha:a.testBit u
  ·exact .inl rfl
  ·exact .inr (h u hu ha)
def Zd7 (p:Nat->Bool)(g:Nat->Nat)(L:List Nat)(m:Nat):Nat:=L.foldl (λ acc v=>if p v then min acc (g v)else acc) m
theorem foldMin_le {p:Nat->Bool}{g:Nat->Nat}:∀{L:List Nat} {m:Nat},Zd7 p g L m<=m/\∀v,v∈L->p v=true->Zd7 p g L m<=g v
 |[],m=>⟨uH _,by simp⟩
 |w::L,m=>by
  have ih:= @foldMin_le p g L (if p w then min m (g w)else m);have e:Zd7 p g (w::L) m=Zd7 p g L (if p w then min m (g w)else m):=rfl;rw[e];have h1:(if p w then min m (g w)else m)<=m:=by split<;>omega
  refine⟨by omega,λ v hv hp=>?_⟩;rcases yH.1 hv with rfl|hv
  ·have:(if p v then min m (g v)else m)<=g v:=by rw[if_pos hp];omega
   omega
  ·exact ih.2 v hv hp
theorem Zou {p:Nat->Bool}{g:Nat->Nat}:∀{L:List Nat} {m:Nat},Zd7 p g L m=m\/∃v,v∈L/\p v=true/\Zd7 p g L m=g v
 |[],m=> .inl rfl
 |w::L,m=>by
  have ih:= @Zou p g L (if p w then min m (g w)else m);have e:Zd7 p g (w::L) m=Zd7 p g L (if p w then min m (g w)else m):=rfl;rw[e];rcases ih with h|⟨v,h1,h2,h3⟩
  ·rw[h];by_cases c:p w=true
   ·rw[if_pos c];rcases Nat.le_total m (g w)with h4|h4
    ·left;omega
    ·right;exact⟨w,by simp,c,by omega⟩
   ·rw[if_neg c];exact .inl rfl
  ·exact .inr ⟨v,uM _ h1,h2,h3⟩
def atN (l:List Nat)(i:Nat):Nat:=(l[i]?).getD 0
def ZdD (n:Nat)(fm:List Nat)(s v:Nat):Bool:=s.testBit v&&inB n (atN fm v) (s-2^v)
def Zeq (n:Nat)(c:Nat->Nat->Nat)(L:List Nat)(s v:Nat):Nat:=atN L (s-2^v)+((bits n (s-2^v)).map (c v)).sum
def ZfK (n:Nat)(c:Nat->Nat->Nat)(fm L:List Nat)(s:Nat):Nat:=Zd7 (ZdD n fm s) (Zeq n c L s) (List.range n) 1048576
def ZbV (n:Nat)(c:Nat->Nat->Nat)(fm:List Nat):Nat->List Nat
 |0=>[0]
 |k+1=>ZbV n c fm k++[ZfK n c fm (ZbV n c fm k) (k+1)]
theorem costL_len (n:Nat)(c:Nat->Nat->Nat)(fm:List Nat)(k:Nat):(ZbV n c fm k).length=k+1:=by
 induction k with
 |zero=>rfl
 |succ k ih=>simp[ZbV,ih]
def Zcm (n:Nat)(c:Nat->Nat->Nat)(fm:List Nat)(s:Nat):Nat:=atN (ZbV n c fm s) s
theorem costL_at (n:Nat)(c:Nat->Nat->Nat)(fm:List Nat){k s:Nat}(h:s<=k):atN (ZbV n c fm k) s=Zcm n c fm s:=by
 induction k with
 |zero=>obtain rfl:s=0:=by omega
        rfl
 |succ k ih=>
  rcases uF s (k+1)with h1|h1
  ·rw[<-ih (by omega)];simp only[atN,ZbV];rw[qH (by rw[costL_len];omega)]
  ·obtain rfl:s=k+1:=by omega
   rfl
theorem costN_zero (n:Nat)(c:Nat->Nat->Nat)(fm:List Nat):Zcm n c fm 0=0:=rfl
theorem costN_succ (n:Nat)(c:Nat->Nat->Nat)(fm:List Nat)(k:Nat):Zcm n c fm (k+1)=ZfK n c fm (ZbV n c fm k) (k+1):=by
 simp only[Zcm,atN,ZbV];rw[yZ (by rw[costL_len];omega),costL_len];simp
def ZdF (n:Nat)(c:Nat->Nat->Nat)(fm:List Nat):Nat:=Zcm n c fm (2^n-1)
def fmF (fm:List Nat)(v u:Nat):Bool:=(atN fm v).testBit u
def ZdV (n s:Nat)(R:List Nat):Prop:=R.Nodup/\∀u,u∈R↔u<n/\s.testBit u=true
theorem pow_le8 {n:Nat}(h:n<=8):2^n<=256:=kQ (n:=2) (by decide) h
theorem ZnC {n s:Nat}{R:List Nat}(h:ZdV n s R):R.Perm (bits n s):=
 (Af h.1 (List.nodup_range.filter _)).2 λ u=>(h.2 u).trans mem_bits.symm
theorem ZdV.tail {n s v:Nat}{P:List Nat}(h8:n<=8)(hs:s<2^n)(h:ZdV n s (v::P)):v<n/\s.testBit v=true/\s-2^v<s/\ZdV n (s-2^v) P:=by
 have:=pow_le8 h8;obtain⟨h1,h2⟩:=(h.2 v).1 (by simp);obtain⟨h3,h4⟩:=clr s (by omega) v (by omega) h2;have hn:=yS.1 h.1;refine⟨h1,h2,h3,hn.2,λ u=>?_⟩;constructor
 ·intro hu;obtain⟨h5,h6⟩:=(h.2 u).1 (uM _ hu);refine⟨h5,?_⟩;rw[h4 u (by omega),h6];have:u≠v:=λ e=>hn.1 (e▸hu)
  simp[this]
 ·rintro⟨h5,h6⟩;rw[h4 u (by omega)]at h6;simp only[uO,yK,qJ]at h6;rcases yH.1 ((h.2 u).2 ⟨h5,h6.1⟩)with e|h7
  ·exact(h6.2 e).elim
  ·exact h7
theorem ZdV.cons {n s v:Nat}{P:List Nat}(h8:n<=8)(hs:s<2^n)(hv:v<n)(hb:s.testBit v=true)(h:ZdV n (s-2^v) P):ZdV n s (v::P):=by
 have:=pow_le8 h8;obtain⟨h3,h4⟩:=clr s (by omega) v (by omega) hb;refine⟨yS.2 ⟨λ hc=>?_,h.1⟩,λ u=>?_⟩
 ·have:=((h.2 v).1 hc).2;rw[h4 v (by omega)]at this;simp at this
 ·rw[yH,h.2];constructor
  ·rintro(rfl|⟨h5,h6⟩)
   ·exact⟨hv,hb⟩
   ·rw[h4 u (by omega)]at h6;simp only[uO]at h6;exact⟨h5,h6.1⟩
  ·rintro⟨h5,h6⟩;by_cases e:u=v
   ·exact .inl e
   ·right
    refine⟨h5,?_⟩;rw[h4 u (by omega),h6];simp[e]
theorem Zv8 {n s:Nat}(hs:s<2^n)(h:ZdV n s []):s=0:=by
 refine Ag λ u=>?_
 rw[Be];rcases uF u n with hu|hu
 ·cases hb:s.testBit u
  ·rfl
  ·have:=(h.2 u).2 ⟨hu,hb⟩;cases this
 ·exact kZ (gB hs (kQ (by decide) hu))
theorem Zk4 {n:Nat}(h8:n<=8)(c:Nat->Nat->Nat)(fm:List Nat):∀(R:List Nat) (s:Nat),s<2^n->ZdV n s R->ZdT (fmF fm) R->Zcm n c fm s<=bkR c R
 |[],s,hs,ho,_=>by
  rw[Zv8 hs ho,costN_zero];exact uJ _
 |v::P,s,hs,ho,ha=>by
  obtain⟨h1,h2,h3,h4⟩:=ho.tail h8 hs;obtain⟨k,rfl⟩:∃k,s=k+1:=⟨s-1,by omega⟩;have ih:=Zk4 h8 c fm P _ (by omega) h4 ha.1;rw[costN_succ,ZfK];have hok:ZdD n fm (k+1) v=true:=by
   simp only[ZdD,h2,kK];exact inB_iff.2 λ u hu hb=>((h4.2 u).1 (ha.2 u hb)).2
  have:=(@foldMin_le (ZdD n fm (k+1)) (Zeq n c (ZbV n c fm k) (k+1)) (List.range n) 1048576).2 v (yD.2 h1) hok;refine gR this ?_;rw[Zeq,costL_at n c fm (by omega),bkR,<-ZpV ((ZnC h4).map (c v))];omega
theorem Zk3 {n:Nat}(h8:n<=8)(c:Nat->Nat->Nat)(fm:List Nat)(hf:∀v,atN fm v<2^n):∀(s:Nat),s<2^n->Zcm n c fm s<1048576->∃R,ZdV n s R/\ZdT (fmF fm) R/\bkR c R=Zcm n c fm s:=by
 intro s
 induction s using Nat.strongRecOn with
 |ind s ih=>
  intro hs hc;rcases qT s with rfl|hpos
  ·exact⟨[],⟨Av,by simp⟩,trivial,rfl⟩
  ·obtain⟨k,rfl⟩:∃k,s=k+1:=⟨s-1,by omega⟩;rw[costN_succ,ZfK]at hc|-;rcases @Zou (ZdD n fm (k+1)) (Zeq n c (ZbV n c fm k) (k+1)) (List.range n) 1048576 with h|⟨v,h1,h2,h3⟩
   ·omega
   ·rw[h3]at hc|-;have hv:=yD.1 h1;simp only[ZdD,uO]at h2;have:=pow_le8 h8;obtain⟨h4,h5⟩:=clr (k+1) (by omega) v (by omega) h2.1;rw[Zeq,costL_at n c fm (by omega)]at hc|-;obtain⟨P,g1,g2,g3⟩:=ih (k+1-2^v) h4 (by omega) (by omega);refine⟨v::P,g1.cons h8 hs hv h2.1,⟨g2,λ u hu=>?_⟩,?_⟩
    ·refine(g1.2 u).2 ?_;rcases uF u n with hun|hun
     ·exact⟨hun,inB_iff.1 h2.2 u hun hu⟩
     ·have:=kZ (gB (hf v) (kQ (n:=2) (by decide) hun));rw[fmF,this]at hu;cases hu
    ·rw[bkR,g3,ZpV ((ZnC g1).map (c v))]
theorem ZiE {n:Nat}{R:List Nat}:ZdV n (2^n-1) R↔Part n 0 R.reverse:=by
 constructor
 ·rintro⟨h1,h2⟩;have h3:∀u,u∈R↔u<n:=λ u=>by rw[h2];simp[Bw]
  refine⟨ZjP.2 h1,λ v hv=>(h3 v).1 (qK.1 hv),?_⟩;have:=(Af h1 zT).2 (λ u=>by rw[h3,yD]);simpa using this.length_eq
 ·intro h;refine⟨ZjP.1 h.nd,λ u=>?_⟩;constructor
  ·intro hu;have:=h.lt u (qK.2 hu);simp[Bw,this]
  ·rintro⟨hu,_⟩;exact qK.1 (Part.mem h hu)
theorem Zwf (n:Nat):Part n 0 (List.range n):=⟨zT,λ v hv=>yD.1 hv,by simp⟩
theorem ZeU {P:List Nat}{v u:Nat}(hu:u∈P):(P++[v]).idxOf u=P.idxOf u:=by rw[List.idxOf_append,if_pos hu]
theorem Zii {P:List Nat}{v:Nat}(hv:v∉P):(P++[v]).idxOf v=P.length:=by
 rw[List.idxOf_append,if_neg hv];simp
theorem ZkA {F:Nat->Nat->Bool}:∀{R:List Nat},R.Nodup->(ZdT F R↔∀v,v∈R->∀u,F v u=true->u∈R/\R.reverse.idxOf u<R.reverse.idxOf v)
 |[],_=>by simp[ZdT]
 |v::P,hn=>by
  have hn':=yS.1 hn;have hv:v∉P.reverse:=λ h=>hn'.1 (qK.1 h)
  rw[ZdT,ZkA hn'.2,List.reverse_cons];constructor
  ·rintro⟨h1,h2⟩ w hw u hu;rcases yH.1 hw with rfl|hw
   ·have h3:=h2 u hu;refine⟨uM _ h3,?_⟩;rw[Zii hv,ZeU (qK.2 h3)];exact jJ (qK.2 h3)
   ·obtain⟨h3,h4⟩:=h1 w hw u hu;refine⟨uM _ h3,?_⟩;rw[ZeU (qK.2 h3),ZeU (qK.2 hw)];exact h4
  ·intro h;have key:∀w,w∈v::P->∀u,F w u=true->u∈P:=by
    intro w hw u hu;obtain⟨h3,h4⟩:=h w hw u hu;rcases yH.1 h3 with rfl|h3
    ·exfalso;rw[Zii hv]at h4;rcases yH.1 hw with rfl|hw
     ·rw[Zii hv]at h4;omega
     ·rw[ZeU (qK.2 hw)]at h4;have:=jJ (qK.2 hw);omega
    ·exact h3
   refine⟨λ w hw u hu=>?_,λ u hu=>key v (by simp) u hu⟩;have h3:=key w (uM _ hw) u hu;have h4:=(h w (uM _ hw) u hu).2;rw[ZeU (qK.2 h3),ZeU (qK.2 hw)]at h4;exact⟨h3,h4⟩
def cnt (l:List NA)(u v:Nat):Nat:=(l.filter λ a=> !decide (a.1=a.2)&&(decide (a.1=u)&&decide (a.2=v))).length
def ind (a:NA)(u v:Nat):Nat:=if a.1≠a.2/\a.1=u/\a.2=v then 1 else 0
theorem cnt_cons (a:NA)(l:List NA)(u v:Nat):cnt (a::l) u v=ind a u v+cnt l u v:=by
 simp only[cnt,ind,zB];by_cases c:a.1≠a.2/\a.1=u/\a.2=v
 ·rw[if_pos c,if_pos (by simp[c.1,c.2.1,c.2.2];intro h;exact c.1 (by rw[c.2.1,c.2.2,h]))];simp;omega
 ·rw[if_neg c,if_neg (by simp only[uO,yK,qJ,uG];exact c)];simp
theorem Zq5 (f g:Nat->Nat):∀P:List Nat,(P.map λ u=>f u+g u).sum=(P.map f).sum+(P.map g).sum
 |[]=>rfl
 |x::P=>by simp[Zq5 f g P];omega
theorem ZnD (c d:Nat->Nat->Nat):∀R,bkR (λ u v=>c u v+d u v) R=bkR c R+bkR d R
 |[]=>rfl
 |v::P=>by
  simp only[bkR,ZnD c d P,Zq5];omega
theorem ZnG :∀R,bkR (λ _ _=>0) R=0
 |[]=>rfl
 |v::P=>by
  have h0:∀T:List Nat,(T.map λ _=>0).sum=0:=λ T=>by
   induction T with
   |nil=>rfl
   |cons x T ih=>rw[uX,jD,ih]
  have:=h0 P;have e:bkR (λ _ _=>0) (v::P)=bkR (λ _ _=>0) P+(P.map λ _=>0).sum:=rfl;rw[e,ZnG P,this]
theorem Zls (a:NA)(v:Nat):∀{P:List Nat},P.Nodup->v∉P->(P.map (ind a v)).sum=if a.1=v/\a.2∈P then 1 else 0
 |[],_,_=>by simp
 |u::P,hn,hv=>by
  have hn':=yS.1 hn;rw[uX,jD,Zls a v hn'.2 (λ h=>hv (uM _ h))];have hvu:v≠u:=λ h=>hv (by simp[h])
  simp only[ind,yH];by_cases c1:a.1=v
  ·by_cases c2:a.2=u
   ·have:a.2∉P:=c2▸hn'.1;rw[if_pos ⟨by rw[c1,c2];exact hvu,c1,c2⟩,if_neg (λ h=>this h.2),if_pos ⟨c1, .inl c2⟩]
   ·rw[if_neg (λ h=>c2 h.2.2)];by_cases c3:a.2∈P
    ·rw[if_pos ⟨c1,c3⟩,if_pos ⟨c1, .inr c3⟩]
    ·rw[if_neg (λ h=>c3 h.2),if_neg (λ h=>h.2.elim c2 c3)]
  ·rw[if_neg (λ h=>c1 h.2.1),if_neg (λ h=>c1 h.1),if_neg (λ h=>c1 h.1)]
theorem ZkP (a:NA):∀{R:List Nat},R.Nodup->(a.1∉R\/a.2∉R)->bkR (ind a) R=0
 |[],_,_=>rfl
 |v::P,hn,h=>by
  have hn':=yS.1 hn;rw[bkR,ZkP a hn'.2 (h.imp (λ h h'=>h (uM _ h')) (λ h h'=>h (uM _ h'))),Zls a v hn'.2 hn'.1,if_neg];rintro⟨h1,h2⟩;rcases h with h|h
  ·exact h (by simp[h1])
  ·exact h (uM _ h2)
theorem ZnF (a:NA):∀{R:List Nat},R.Nodup->a.1∈R->a.2∈R->bkR (ind a) R=if bwd R.reverse a then 1 else 0
 |[],_,h,_=>by cases h
 |v::P,hn,h1,h2=>by
  have hn':=yS.1 hn;have hv:v∉P.reverse:=λ h=>hn'.1 (qK.1 h)
  rw[bkR,Zls a v hn'.2 hn'.1,List.reverse_cons];by_cases c1:a.1=v
  ·rw[ZkP a hn'.2 (.inl (c1▸hn'.1))];by_cases c2:a.2=v
   ·rw[if_neg (λ h=>hn'.1 (c2▸h.2)),if_neg (by simp[bwd,c1,c2])]
   ·have h3:=(yH.1 h2).resolve_left c2;have h4:=jJ (qK.2 h3);rw[if_pos ⟨c1,h3⟩,if_pos (by simp only[bwd,c1,uG];rw[Zii hv,ZeU (qK.2 h3)];exact h4)]
  ·rw[if_neg (λ h=>c1 h.1)];have h3:=(yH.1 h1).resolve_left c1;by_cases c2:a.2=v
   ·rw[ZkP a hn'.2 (.inr (c2▸hn'.1)),if_neg];have h4:=jJ (qK.2 h3);simp only[bwd,c2,uG];rw[Zii hv,ZeU (qK.2 h3)];omega
   ·have h5:=(yH.1 h2).resolve_left c2;have e:bwd (P.reverse++[v]) a=bwd P.reverse a:=by
     simp only[bwd];rw[ZeU (qK.2 h3),ZeU (qK.2 h5)]
    rw[ZnF a hn'.2 h3 h5,e,gH]
theorem ZnE :∀(l:List NA) {R:List Nat},R.Nodup->(∀a,a∈l->a.1∈R/\a.2∈R)->bkR (cnt l) R=(l.filter (bwd R.reverse)).length
 |[],R,_,_=>by
  have:cnt []=λ _ _=>0:=rfl
  rw[this,ZnG];rfl
 |a::l,R,hn,h=>by
  have e:cnt (a::l)=λ u v=>ind a u v+cnt l u v:=funext λ u=>funext λ v=>cnt_cons a l u v
  rw[e,ZnD,ZnE l hn (λ b hb=>h b (uM _ hb)),ZnF a hn (h a (by simp)).1 (h a (by simp)).2,zB];split
  ·simp;omega
  ·simp
theorem Znr (M:List Nat)(l:List NA):(ZcK M l).length=(l.filter (bwd M)).length:=by
 have:∀k,k<=l.length->((List.range k).filter (Zjk M l)).length=((l.take k).filter (bwd M)).length:=by
  intro k
  induction k with
  |zero=>intro _;rfl
  |succ k ih=>
   intro hk;have hg:=uL (show k<l.length by omega);rw[gG,gX,uC,ih (by omega),List.take_add_one,hg,gX,uC];simp only[Option.toList,zB,zK,Zjk,hg];split<;>rfl
 have h:=this l.length (uH _);rw[yI]at h;exact h
theorem Zsz {n:Nat}{l:List NA}{R:List Nat}(hi:InN n l)(hR:Part n 0 R.reverse):bkR (cnt l) R=(ZcK R.reverse l).length:=by
 have hm:∀u,u<n->u∈R:=λ u hu=>qK.1 (Part.mem hR hu)
 rw[ZnE l (ZjP.1 hR.nd) (λ a ha=>⟨hm _ (hi a ha).1,hm _ (hi a ha).2⟩),Znr]
def ZbA (fm:List Nat)(v u:Nat):List Nat:=fm.set v (atN fm v|||2^u)
def ZeO (n:Nat)(c:Nat->Nat->Nat)(size:Nat)(k:Nat)(a:NA)(st:List Nat×List Nat):List Nat×List Nat:=
 if a.1=a.2 then st else if ZdF n c (ZbA st.1 a.1 a.2)=size then(ZbA st.1 a.1 a.2,st.2++[k])else(ZbA st.1 a.2 a.1,st.2)
def Zcd (n:Nat)(c:Nat->Nat->Nat)(size:Nat)(l:List NA):Nat->List Nat×List Nat
 |0=>(List.replicate n 0,[])
 |k+1=>match l[k]? with
  |some a=>ZeO n c size k a (Zcd n c size l k)
  |none=>Zcd n c size l k
def Zbn (n:Nat)(l:List NA):Nat:=ZdF n (cnt l) (List.replicate n 0)
def Zdn (n:Nat)(l:List NA):List Nat:=(Zcd n (cnt l) (Zbn n l) l l.length).2
theorem Znn {fm:List Nat}{v u w:Nat}(hv:v<fm.length):atN (ZbA fm v u) w=if w=v then atN fm v|||2^u else atN fm w:=by
 simp only[atN,ZbA,qD];by_cases c:v=w
 ·subst c;simp[hv]
 ·rw[if_neg c,if_neg (Ne.symm c)]
theorem Zt7 {fm:List Nat}{v u w x:Nat}(hv:v<fm.length):fmF (ZbA fm v u) w x=(fmF fm w x||(decide (w=v)&&decide (x=u))):=by
 simp only[fmF,Znn hv];by_cases c:w=v
 ·subst c;rw[if_pos rfl,Nat.testBit_or,Nat.testBit_two_pow];by_cases c2:x=u
  ·simp[c2]
  ·simp[c2,Ne.symm c2]
 ·simp[c]
theorem orAt_lt {n:Nat}{fm:List Nat}{v u:Nat}(hv:v<fm.length)(hu:u<n)(h:∀w,atN fm w<2^n):∀w,atN (ZbA fm v u) w<2^n:=by
 intro w;rw[Znn hv];split
 ·exact Nat.or_lt_two_pow (h v) (Ah (by decide) hu)
 ·exact h w
structure Dec (n:Nat)(l:List NA)(k:Nat)(fm D:List Nat):Prop where
 len:fm.length=n
 lt:∀w,atN fm w<2^n
 asc:Asc D
 below:∀i,i∈D->i<k
 adm:∀R,Part n 0 R.reverse->(ZdT (fmF fm) R↔∀j,j<k->(j∈D↔j∈ZcK R.reverse l))
 some:∃R,Part n 0 R.reverse/\ZdT (fmF fm) R/\bkR (cnt l) R=Zbn n l
 first:∀R,Part n 0 R.reverse->bkR (cnt l) R=Zbn n l->(∀j,j<k->(j∈D↔j∈ZcK R.reverse l))\/∃j,j<k/\j∈D/\j∉ZcK R.reverse l/\∀i,i<j->(i∈D↔i∈ZcK R.reverse l)
theorem ZtT {α:Type}(p:α->Bool)(l:List α):(l.filter p).length<=l.length:=jS _ _
theorem atN_rep (n w:Nat):atN (List.replicate n 0) w=0:=by
 simp only[atN,gI];split<;>rfl
theorem Zni (n:Nat)(R:List Nat):ZdT (fmF (List.replicate n 0)) R:=by
 induction R with
 |nil=>trivial
 |cons v P ih=>exact⟨ih,λ u hu=>by rw[fmF,atN_rep,Be]at hu;cases hu⟩
theorem pow_pos' (n:Nat):0<2^n:=Nat.pow_pos (by decide)
theorem ZqJ {n:Nat}{l:List NA}(h8:n<=8){R:List Nat}(hR:Part n 0 R.reverse):Zbn n l<=bkR (cnt l) R:=by
 have:=pow_pos' n;exact Zk4 h8 _ _ R _ (by omega) (ZiE.2 hR) (Zni n R)
theorem ZsB {n:Nat}{l:List NA}(hi:InN n l){R:List Nat}(hR:Part n 0 R.reverse):bkR (cnt l) R<=l.length:=by
 rw[Zsz hi hR,Znr];exact ZtT _ _
theorem ZqK {n:Nat}{l:List NA}(h8:n<=8)(hi:InN n l):Zbn n l<=l.length:=by
 have hR:Part n 0 (List.range n).reverse.reverse:=by rw[List.reverse_reverse];exact Zwf n
 exact gR (ZqJ h8 hR) (ZsB hi hR)
theorem Ztp {n:Nat}{l:List NA}(h8:n<=8)(hi:InN n l)(hl:l.length<1048576):Dec n l 0 (List.replicate n 0) [] where
 len:=by simp
 lt:=λ w=>by rw[atN_rep];exact pow_pos' n
 asc:=List.Pairwise.nil
 below:=by simp
 adm:=λ R _=>⟨λ _ j h=>by omega,λ _=>Zni n R⟩
 some:=by
  have:=pow_pos' n;have:=ZqK h8 hi;obtain⟨R,h1,h2,h3⟩:=Zk3 h8 (cnt l) (List.replicate n 0) (λ w=>by rw[atN_rep];exact pow_pos' n) (2^n-1) (by omega) (by have:Zcm n (cnt l) (List.replicate n 0) (2^n-1)=Zbn n l:=rfl;omega);exact⟨R,ZiE.1 h1,h2,h3⟩
 first:=λ R _ _=> .inl λ j h=>by omega
theorem Zi7 {n:Nat}{fm R:List Nat}{v u:Nat}(hv:v<fm.length)(hf:fm.length=n)(hu:u<n)(hR:Part n 0 R.reverse):ZdT (fmF (ZbA fm v u)) R↔ZdT (fmF fm) R/\R.reverse.idxOf u<R.reverse.idxOf v:=by
 have hn:=ZjP.1 hR.nd;have hm:∀u,u<n->u∈R:=λ u hu=>qK.1 (Part.mem hR hu)
 rw[ZkA hn,ZkA hn];simp only[Zt7 hv,qY,uO,uG];constructor
 ·intro h;exact⟨λ w hw x hx=>h w hw x (.inl hx),(h v (hm v (by omega)) u (.inr ⟨rfl,rfl⟩)).2⟩
 ·rintro⟨h1,h2⟩ w hw x (hx|⟨rfl,rfl⟩)
  ·exact h1 w hw x hx
  ·exact⟨hm x hu,h2⟩
theorem Zto {n:Nat}{l:List NA}(h8:n<=8)(hi:InN n l)(hl:l.length<1048576){k:Nat}{a:NA}(ha:l[k]? =some a){st:List Nat×List Nat}(h:Dec n l k st.1 st.2):
  Dec n l (k+1) (ZeO n (cnt l) (Zbn n l) k a st).1 (ZeO n (cnt l) (Zbn n l) k a st).2:=by
 obtain⟨fm,D⟩:=st;dsimp only at h;have hin:=hi a (uA ha);have hkD:k∉D:=λ hc=>by have:=h.below k hc;omega
 have hmem:∀M:List Nat,k∈ZcK M l↔bwd M a=true:=λ M=>by
  rw[Zva];constructor
  ·rintro⟨b,hb,h2⟩;rw[ha]at hb;cases hb;exact h2
  ·intro h2;exact⟨a,ha,h2⟩
 have hpos:=pow_pos' n;have hsz:=ZqK h8 hi;simp only[ZeO];by_cases c:a.1=a.2
 ·rw[if_pos c];have hnb:∀M:List Nat,k∉ZcK M l:=λ M hc=>ZsJ ((hmem M).1 hc) c
  have hext:∀M:List Nat,(∀j,j<k+1->(j∈D↔j∈ZcK M l))↔∀j,j<k->(j∈D↔j∈ZcK M l):=λ M=>by
   constructor
   ·intro h j hj;exact h j (by omega)
   ·intro h j hj;rcases gA.1 hj with h1|rfl
    ·exact h j h1
    ·exact⟨λ h=>(hkD h).elim,λ h=>(hnb M h).elim⟩
  exact{
   len:=h.len
   lt:=h.lt
   asc:=h.asc
   below:=λ i hi=>by have:=h.below i hi;omega
   adm:=λ R hR=>by rw[hext];exact h.adm R hR
   some:=h.some
   first:=λ R hR hs=>by
    rcases h.first R hR hs with h1|⟨j,h1,h2⟩
    ·exact .inl ((hext _).2 h1)
    ·exact .inr ⟨j,by omega,h2⟩}
 ·rw[if_neg c];have hv1:a.1<fm.length:=by rw[h.len];exact hin.1
  have hv2:a.2<fm.length:=by rw[h.len];exact hin.2
  have hbw:∀M:List Nat,bwd M a=true↔M.idxOf a.2<M.idxOf a.1:=λ M=>by simp[bwd]
  by_cases c2:ZdF n (cnt l) (ZbA fm a.1 a.2)=Zbn n l
  ·rw[if_pos c2];have hext:∀M:List Nat,(∀j,j<k+1->(j∈D++[k]↔j∈ZcK M l))↔(∀j,j<k->(j∈D↔j∈ZcK M l))/\bwd M a=true:=λ M=>by
    constructor
    ·intro h;refine⟨λ j hj=>?_,(hmem M).1 ((h k (by omega)).1 (by simp))⟩;rw[<-h j (by omega)];have:j≠k:=by omega
     simp[this]
    ·rintro⟨h1,h2⟩ j hj;rcases gA.1 hj with h3|rfl
     ·rw[<-h1 j h3];have:j≠k:=by omega
      simp[this]
     ·exact⟨λ _=>(hmem M).2 h2,λ _=>by simp⟩
   exact{
    len:=by simp[ZbA,h.len]
    lt:=orAt_lt hv1 hin.2 h.lt
    asc:=yX.2 ⟨h.asc,jY _ _,λ x hx y hy=>by rw[uR.1 hy];exact h.below x hx⟩
    below:=λ i hi=>by
     rcases yN.1 hi with h1|h1
     ·have:=h.below i h1;omega
     ·rw[uR.1 h1];omega
    adm:=λ R hR=>by rw[hext,Zi7 hv1 h.len hin.2 hR,h.adm R hR,hbw]
    some:=by
     obtain⟨R,h1,h2,h3⟩:=Zk3 h8 (cnt l) (ZbA fm a.1 a.2) (orAt_lt hv1 hin.2 h.lt) (2^n-1) (by omega) (by have e:Zcm n (cnt l) (ZbA fm a.1 a.2) (2^n-1)=ZdF n (cnt l) (ZbA fm a.1 a.2):=rfl;omega);exact⟨R,ZiE.1 h1,h2,h3.trans c2⟩
    first:=λ R hR hs=>by
     rcases h.first R hR hs with h1|⟨j,h1,h2,h3,h4⟩
     ·by_cases c3:bwd R.reverse a=true
      ·exact .inl ((hext _).2 ⟨h1,c3⟩)
      ·refine .inr ⟨k,by omega,by simp,λ hc=>c3 ((hmem _).1 hc),λ i hi=>?_⟩;rw[<-h1 i hi];have:i≠k:=by omega
       simp[this]
     ·refine .inr ⟨j,by omega,by simp[h2],h3,λ i hi=>?_⟩;rw[<-h4 i hi];have:i≠k:=by omega
      simp[this]}
  ·rw[if_neg c2];have hno:∀R:List Nat,Part n 0 R.reverse->ZdT (fmF fm) R->bkR (cnt l) R=Zbn n l->bwd R.reverse a=false:=by
    intro R hR hA hs;cases hb:bwd R.reverse a
    ·rfl
    ·exfalso;have h1:=(Zi7 hv1 h.len hin.2 hR).2 ⟨hA,(hbw _).1 hb⟩;have h2:=Zk4 h8 (cnt l) (ZbA fm a.1 a.2) R _ (by omega) (ZiE.2 hR) h1;have e:Zcm n (cnt l) (ZbA fm a.1 a.2) (2^n-1)=ZdF n (cnt l) (ZbA fm a.1 a.2):=rfl;obtain⟨R',g1,g2,g3⟩:=Zk3 h8 (cnt l) (ZbA fm a.1 a.2) (orAt_lt hv1 hin.2 h.lt) (2^n-1) (by omega) (by omega);have:=ZqJ (l:=l) h8 (ZiE.1 g1);omega
   have hnb:∀R:List Nat,Part n 0 R.reverse->(R.reverse.idxOf a.1<R.reverse.idxOf a.2↔¬bwd R.reverse a=true):=λ R hR=>by
    rw[hbw];have:R.reverse.idxOf a.1≠R.reverse.idxOf a.2:=λ h=>c (Zul (Part.mem hR hin.1) (Part.mem hR hin.2) h)
    omega
   have hext:∀M:List Nat,(∀j,j<k+1->(j∈D↔j∈ZcK M l))↔(∀j,j<k->(j∈D↔j∈ZcK M l))/\¬bwd M a=true:=λ M=>by
    constructor
    ·intro h;exact⟨λ j hj=>h j (by omega),λ hb=>hkD ((h k (by omega)).2 ((hmem M).2 hb))⟩
    ·rintro⟨h1,h2⟩ j hj;rcases gA.1 hj with h3|rfl
     ·exact h1 j h3
     ·exact⟨λ h=>(hkD h).elim,λ h=>(h2 ((hmem M).1 h)).elim⟩
   exact{
    len:=by simp[ZbA,h.len]
    lt:=orAt_lt hv2 hin.1 h.lt
    asc:=h.asc
    below:=λ i hi=>by have:=h.below i hi;omega
    adm:=λ R hR=>by rw[hext,Zi7 hv2 h.len hin.1 hR,h.adm R hR,hnb R hR]
    some:=by
     obtain⟨R,h1,h2,h3⟩:=h.some;refine⟨R,h1,(Zi7 hv2 h.len hin.1 h1).2 ⟨h2,(hnb R h1).2 ?_⟩,h3⟩;rw[hno R h1 h2 h3];decide
    first:=λ R hR hs=>by
     rcases h.first R hR hs with h1|⟨j,h1,h2⟩
     ·refine .inl ((hext _).2 ⟨h1,?_⟩);rw[hno R hR ((h.adm R hR).2 h1) hs];decide
     ·exact .inr ⟨j,by omega,h2⟩}
theorem dec_all {n:Nat}{l:List NA}(h8:n<=8)(hi:InN n l)(hl:l.length<1048576):∀k,k<=l.length->Dec n l k (Zcd n (cnt l) (Zbn n l) l k).1 (Zcd n (cnt l) (Zbn n l) l k).2
 |0,_=>Ztp h8 hi hl
 |k+1,hk=>by
  have ha:=uL (show k<l.length by omega);rw[Zcd,ha];exact Zto h8 hi hl ha (dec_all h8 hi hl k (by omega))
end Go.Cy
namespace Go.PS
open Go
theorem ZmT {n:Nat}(h:n<9223372036854775808):IntKind.i64.wrap (n:Int)=n:=by
 rw[IntKind.wrap_i64];omega
theorem Zg9 (a:Nat):BitVec.ofInt 64 (a:Int)=BitVec.ofNat 64 a:=BitVec.ofInt_natCast _ _
theorem Zha {a:Nat}(h:a<9223372036854775808):(BitVec.ofNat 64 a).toNat=a:=by
 rw[BitVec.toNat_ofNat,Cg];omega
theorem ZsI {a b:Nat}(ha:a<9223372036854775808)(hb:b<9223372036854775808):IntKind.i64.wrap ((BitVec.ofInt 64 (a:Int)&&&BitVec.ofInt 64 (b:Int)).toNat:Int)=((a&&&b:Nat):Int):=by
 rw[Zg9,Zg9,BitVec.toNat_and,Zha ha,Zha hb];exact ZmT (Nat.lt_of_le_of_lt Nat.and_le_left ha)
theorem ZnL {a b:Nat}(ha:a<9223372036854775808)(hb:b<9223372036854775808):IntKind.i64.wrap ((BitVec.ofInt 64 (a:Int)|||BitVec.ofInt 64 (b:Int)).toNat:Int)=((a|||b:Nat):Int):=by
 rw[Zg9,Zg9,BitVec.toNat_or,Zha ha,Zha hb];exact ZmT (Nat.or_lt_two_pow (n:=63) ha hb)
def Zem (a b:Nat):Nat:=a^^^(a&&&b)
theorem Zjc (a b i:Nat):(Zem a b).testBit i=(a.testBit i&& !b.testBit i):=by
 simp only[Zem,Nat.testBit_xor,Nat.testBit_and];cases a.testBit i<;>cases b.testBit i<;>rfl
theorem ZnK {a b:Nat}(ha:a<9223372036854775808)(hb:b<9223372036854775808):IntKind.i64.wrap ((BitVec.ofInt 64 (a:Int)&&&~~~BitVec.ofInt 64 (b:Int)).toNat:Int)=((Zem a b:Nat):Int):=by
 have e:(BitVec.ofNat 64 a&&&~~~BitVec.ofNat 64 b).toNat=Zem a b:=by
  refine Ag λ i=>?_
  rw[Zjc,BitVec.testBit_toNat,BitVec.getLsbD_and,BitVec.getLsbD_not];rw[<-BitVec.testBit_toNat,Zha ha,<-BitVec.testBit_toNat,Zha hb];rcases uF i 64 with h|h
  ·simp[h]
  ·have:a.testBit i=false:=kZ (gB ha (gR (by decide:9223372036854775808<=2^64) (kQ (n:=2) (by decide) h)));simp[this]
 rw[Zg9,Zg9,e];refine ZmT (Nat.lt_of_le_of_lt ?_ ha);refine Nat.le_of_not_lt λ h=>?_
 have:Zem a b<=a:=by
  have h1:=Nat.and_le_left (n:=a) (m:=Zem a b);have h2:a&&&Zem a b=Zem a b:=by
   refine Ag λ i=>?_
   rw[Nat.testBit_and,Zjc];cases a.testBit i<;>rfl
  rw[h2]at h1;exact h1
 omega
theorem Zr1 {a b n:Nat}(ha:a<2^n):Zem a b=0↔Go.Cy.inB n a b=true:=by
 rw[Go.Cy.inB_iff];constructor
 ·intro h u _ hu;have:=Zjc a b u;rw[h,Be,hu]at this;simpa using this.symm
 ·intro h;refine Ag λ u=>?_
  rw[Zjc,Be];rcases uF u n with hu|hu
  ·cases hb:a.testBit u
   ·rfl
   ·rw[h u hu hb];rfl
  ·rw[kZ (gB ha (kQ (by decide) hu))];rfl
theorem Zr0 :∀s:Nat,s<256->∀v:Nat,v<8->s.testBit v=true->Zem s (2^v)=s-2^v:=by decide+kernel
theorem Zx1 :∀s:Nat,s<256->∀v:Nat,v<8->IntKind.i64.wrap ((BitVec.ofInt 64 ((s:Int).fdiv (2^min v 64))&&&1#64).toNat:Int)=if s.testBit v then 1 else 0:=by decide+kernel
theorem Zj8 :∀n:Nat,n<=8->IntKind.i64.wrap (1*2^min n 64)=((2^n:Nat):Int):=by decide+kernel
end Go.PS
namespace Go.Hp
def at0 (l:List Nat)(i:Nat):Nat:=(l[i]?).getD 0
end Go.Hp
namespace Go.Cy
def inC (l:List NA)(o:List Nat)(w:Nat):Nat:=(l.filter λ a=>decide (a.2=w)&& !decide (a.1∈o)).length
def hds (l:List NA)(v:Nat):List Nat:=(l.filter λ a=>decide (a.1=v)).map (·.2)
def occ (l:List Nat)(w:Nat):Nat:=(l.filter λ u=>decide (u=w)).length
theorem ZlR (x:Nat)(l:List Nat)(w:Nat):occ (x::l) w=(if x=w then 1 else 0)+occ l w:=by
 simp only[occ,zB];by_cases c:x=w
 ·rw[if_pos (by simp[c]),if_pos c];simp;omega
 ·rw[if_neg (by simp[c]),if_neg c];simp
theorem Zum {l:List NA}{o:List Nat}{w:Nat}:inC l o w=0↔∀a,a∈l->a.2=w->a.1∈o:=by
 simp only[inC,jX,List.filter_eq_nil_iff,uO,uG,yK,qJ,not_and,Ce]
structure Kahn (n:Nat)(l:List NA)(q o:List Nat)(op:Nat->Nat):Prop where
 nd:(q++o).Nodup
 lt:∀v,v∈q++o->v<n
 num:∀w,w<n->op w=inC l o w
 zero:∀w,w<n->(w∈q++o↔op w=0)
 peel:Zgu l o.reverse
structure KahnI (n:Nat)(l:List NA)(q o:List Nat)(r:List Nat)(op:Nat->Nat):Prop where
 nd:(q++o).Nodup
 lt:∀v,v∈q++o->v<n
 num:∀w,w<n->op w=inC l o w+occ r w
 zero:∀w,w<n->(w∈q++o↔op w=0)
 peel:Zgu l o.reverse
theorem KahnI.done {n:Nat}{l:List NA}{q o:List Nat}{op:Nat->Nat}(h:KahnI n l q o [] op):Kahn n l q o op:=
 ⟨h.nd,h.lt,λ w hw=>by rw[h.num w hw];rfl,h.zero,h.peel⟩
theorem KahnI.pos {n:Nat}{l:List NA}{q o r:List Nat}{op:Nat->Nat}{w:Nat}(h:KahnI n l q o (w::r) op)(hw:w<n):0<op w:=by
 have:=h.num w hw;rw[ZlR,if_pos rfl]at this;omega
theorem KahnI.keep {n:Nat}{l:List NA}{q o r:List Nat}{op op':Nat->Nat}{w:Nat}(h:KahnI n l q o (w::r) op)(hw:w<n)(h':∀u,u<n->op' u=if u=w then op w-1 else op u)(hne:op w≠1):KahnI n l q o r op':=by
 have hpos:=h.pos hw;refine⟨h.nd,h.lt,λ u hu=>?_,λ u hu=>?_,h.peel⟩
 ·have:=h.num u hu;rw[ZlR]at this;rw[h' u hu];by_cases c:u=w
  ·subst c;rw[if_pos rfl]at this|-;omega
  ·rw[if_neg c];rw[if_neg (Ne.symm c)]at this;omega
 ·rw[h.zero u hu,h' u hu];by_cases c:u=w
  ·subst c;rw[if_pos rfl];omega
  ·rw[if_neg c]
theorem KahnI.push {n:Nat}{l:List NA}{q o r:List Nat}{op op':Nat->Nat}{w:Nat}(h:KahnI n l q o (w::r) op)(hw:w<n)(h':∀u,u<n->op' u=if u=w then op w-1 else op u)(he:op w=1){q':List Nat}(hq:q'.Perm (q++[w])):KahnI n l q' o r op':=by
 have hno:w∉q++o:=λ hc=>by have:=(h.zero w hw).1 hc;omega
 have hmem:∀u,u∈q'++o↔u∈q++o\/u=w:=λ u=>by
  simp only[yN,hq.mem_iff,yH,kI,or_false];constructor
  ·rintro((h|h)|h)
   ·exact .inl (.inl h)
   ·exact .inr h
   ·exact .inl (.inr h)
  ·rintro((h|h)|h)
   ·exact .inl (.inl h)
   ·exact .inr h
   ·exact .inl (.inr h)
 have hp:(q'++o).Perm (w::(q++o)):=by
  refine(List.Perm.append_right o hq).trans ?_;rw[yP];exact(zC (a:=w) (l₁:=q) (l₂:=o))
 refine⟨hp.nodup_iff.2 (yS.2 ⟨hno,h.nd⟩),λ u hu=>?_,λ u hu=>?_,λ u hu=>?_,h.peel⟩
 ·rcases(hmem u).1 hu with h1|rfl
  ·exact h.lt u h1
  ·exact hw
 ·have:=h.num u hu;rw[ZlR]at this;rw[h' u hu];by_cases c:u=w
  ·subst c;rw[if_pos rfl]at this|-;omega
  ·rw[if_neg c];rw[if_neg (Ne.symm c)]at this;omega
 ·rw[hmem,h' u hu];by_cases c:u=w
  ·subst c;rw[if_pos rfl];exact⟨λ _=>by omega,λ _=> .inr rfl⟩
  ·rw[if_neg c,<-h.zero u hu];exact⟨λ h=>h.resolve_right c, .inl⟩
theorem Kahn.fin {n:Nat}{l:List NA}{o:List Nat}{op:Nat->Nat}(h:Kahn n l [] o op)(hi:InN n l)(hl:∀a,a∈l->a.1≠a.2):¬o.length<n↔Acy l:=by
 constructor
 ·intro hlen;exact h.peel.all hi λ v hv=>qK.2 (Zpu (by simpa using h.nd) (λ u hu=>h.lt u (by simpa using hu)) (by omega) v hv)
 ·intro ha hlen;have hs:Zna n l o.reverse:=by
   intro v hv hno hsrc;have hno':v∉[]++o:=by simpa using hno
   apply hno';rw[h.zero v hv,h.num v hv,Zum];intro a ha h2;exact qK.1 (hsrc a ha h2 (by rw[<-h2];exact hl a ha))
  have hall:=Zy3 hi ha hs;have h2:n<=o.length:=by
   have hsub:∀{a b:List Nat},a.Nodup->(∀x,x∈a->x∈b)->a.length<=b.length:=by
    intro a
    induction a with
    |nil=>intro b _ _;simp
    |cons x a ih=>
     intro b hn hs;have hn':=yS.1 hn;have hx:=hs x (by simp);have:=ih (b:=b.erase x) hn'.2 λ y hy=>(Bl (λ e=>hn'.1 (by rw[<-e];exact hy))).2 (hs y (uM _ hy))
     rw[zP hx]at this;have:=Ay hx;simp;omega
   have:=hsub (a:=List.range n) (b:=o) zT λ v hv=>qK.1 (hall v (yD.1 hv))
   simpa using this
  omega
end Go.Cy
namespace Go.PS
open Go Go.ChangeShapes Go.WideShapes Go.RowKit Go.Deep
theorem Zzg {P:Program}{w:World}{g:Nat}(hg:P.globalNamed "math/bits.deBruijn64tab" =some g)(h:Lib.TabIs P w "math/bits.deBruijn64tab" .u8 Zd3):ZdX (tabs P) w noX:=by
 intro q hq;rw[tabs,hg]at hq;obtain rfl:=uR.1 hq;have hc:=λ i hi=>h.cell hg i hi
 refine⟨?_,λ h=>h,λ j v hj=>?_⟩
 ·exact ZhZ (hc 0 (by decide))
 ·have hl:=(uB.1 hj).1;rw[hc j hl,jC,hj];rfl
section
variable {H:Type}{enc:TypeId×Value->H}
theorem ZuR {a:Assume}{C:Checked}{os:Os}{f:FuncId}{fn:Func}{s:ChangeSpec}{tb:TypeId}{L:List (String×DataW Unit)}
  (own:ownKnob C.prog.godebug=none)(started:os.Started)(noInit:C.prog.inits.idxOf? f=none)(hfn:C.prog.funcs[f]? =some fn)
  (witness:∃(w:World) (tape:Tape) (i:Input),w.os=os/\(w.forCall tape i).Shaped C.prog/\i.vars=[]/\Input.okWide C.prog (w.forCall tape i) .any w.heap.size f i/\
   ((s.pre enc C.prog fn [] false (w.forCall tape i).memory i.args/\laidMetH C.prog L (w.forCall tape i).memory)/\sizedMet enc C.prog fn (OpenSpec.ofChange s) false (w.forCall tape i).memory i.args)/\a.holds C.prog (lone (Frame.enter C.prog f i.args .normal) [] (w.forCall tape i)))
  (hl:laidOutB C.prog=true)(hpl:(fn.params.toList.all λ t=>Zcy C.prog 8 t&&C.prog.readableRec t&&decide (t<C.prog.types.size))=true)
  (hres:fn.resultTypes=#[tb])(hbool:C.prog.underlying tb=some .bool)(hvars:s.vars=[])
  (hs:∀ds:List (DataW H),ds.length=fn.params.size->s.fn H ds={results:=[.lit (.bool true)],args:=ds})
  (hcall:∀xs:List D,xs.length=fn.params.size->(∀(j:Nat) t x,fn.params[j]? =some t->xs[j]? =some x->ZhP C.prog t x)->Zaa C.prog f xs (.bool true))
  (htabs:∀w,laidMetH C.prog L w->ZdX (tabs C.prog) w noX):
  ReturnsInHanded a C os f .any (λ w args=>(s.pre enc C.prog fn [] false w args/\laidMetH C.prog L w)/\sizedMet enc C.prog fn (OpenSpec.ofChange s) false w args) (s.post enc C.prog fn false true false false):=by
 refine returnsInHanded_of_change_and (X:=λ w _=>laidMetH C.prog L w) (λ _ _ _ hh h=>h.of_heap hh) own started noInit hfn witness ?_;intro W base' args ds gs before hval hW _ hwt hL _;have hW':=hW;obtain⟨p,q,hA,hV,rfl,_,_⟩:=hW;rw[hvars]at hV;obtain⟨rfl,rfl⟩:=trodVars_none hV;simp only[uW,uO,uG]at hpl;obtain⟨xs,h1,h2,h3,h4,h5⟩:=Zse fn.params.toList args.toList ds p (λ t ht=>(hpl t ht).1.1) (λ j t v hj hv=>hval j t v (by simpa using hj) (by simpa using hv)) hA (λ j t d hj hd=>ZqL hwt (j:=j) (by rw[qH (uB.1 hj).1];exact hj) (by rw[yO];exact hd));have hc:=hcall xs (by simpa using h1) (λ j t x hj hx=>h4 j t x (by simpa using hj) hx);refine Calls.mono (hc.2 W noX args (λ b hb=>hb.elim) ⟨by simp at h1 h2;omega,λ j d v hj hv=>h5 j d v hj (by simpa using hv)⟩ (htabs W hL)) ?_;rintro e W' ⟨v,rfl,hv,hb⟩;refine⟨v,rfl,?_⟩;cases hv;have hlt:∀x∈p,x.block<W.heap.size:=λ x hx=>hW'.lt x (by simpa using hx)
 have hfn2:=hs ds (by simpa using h3);refine⟨ds,[],p++[],[],p,[],hW',?_,?_,?_,World.keptBut_mono (λ x hx=>⟨hx, .inr (.inl (by simpa using hx))⟩) (hb.frame (·∈p++[])),(λ h=>by cases h)⟩
 ·rw[yO,hfn2,hres];exact⟨[],[],⟨1,by simp[DataW.trod,Value.cells,hbool]⟩,rfl,rfl⟩
 ·rw[yO,hfn2];exact Zsf hl hb _ _ _ _ (λ t ht=>⟨(hpl t ht).1.2,(hpl t ht).2⟩) hlt hA
 ·rw[hvars,yO,hfn2];rfl
end
end Go.PS
