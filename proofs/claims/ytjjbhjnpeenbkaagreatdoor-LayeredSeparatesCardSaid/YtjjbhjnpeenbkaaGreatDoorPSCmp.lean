/- Lists of places, compared by their means; the order that stable sorting makes of them (no program in sight). -/
import Derived.Test.YtjjbhjnpeenbkaaGreatDoorPSBridge
import Derived.Test.YtjjbhjnpeenbkaaGreatDoorPSEnd
set_option linter.unusedSimpArgs false
set_option linter.unusedVariables false
set_option maxHeartbeats 16000000
namespace Go.Stb
def Zkk (l:List Int):Bool:=decide (l.length<=4096)&&l.all λ x=>decide (0<=x/\x<=1048576)
def ZaH (l:List Int):Nat:=if Zkk l then l.length else 0
def Zbq (l:List Int):Int:=if Zkk l then l.sum else 0
def sg (a b:Int):Int:=if a<b then -1 else if b<a then 1 else 0
def Zcg (a b:List Int):Int:=
 if ZaH a=0\/ZaH b=0 then sg (min (ZaH a) 1:Nat) (min (ZaH b) 1:Nat)else sg (Zbq a*ZaH b) (Zbq b*ZaH a)
theorem ZuA (a b:Int):sg a b=-sg b a:=by
 unfold sg;split<;>split<;>omega
theorem Zne (a b:List Int):Zcg a b=-Zcg b a:=by
 unfold Zcg;by_cases h:ZaH a=0\/ZaH b=0
 ·rw[if_pos h,if_pos h.symm,ZuA]
 ·rw[if_neg h,if_neg (λ c=>h c.symm),ZuA]
theorem ZDJ {a b:Int}:sg a b<0↔a<b:=by unfold sg;split<;>(try split)<;>omega
theorem Znf {a b:List Int}:Zcg a b<0↔(ZaH a=0/\0<ZaH b)\/(0<ZaH a/\0<ZaH b/\Zbq a*ZaH b<Zbq b*ZaH a):=by
 unfold Zcg;split<;>rw[ZDJ]<;>omega
theorem ZqJ {a b:List Int}(h:Zcg a b<0):¬Zcg b a<0:=by have:=Zne a b;omega
theorem ZAu {x y:Int}{n:Nat}(hn:0<n)(h:x*n<=y*n):x<=y:=Int.le_of_mul_le_mul_right h (by omega)
theorem Zng {a c:List Int}(b:List Int)(h:Zcg a c<0):Zcg a b<0\/Zcg b c<0:=by
 rw[Znf]at h;rw[Znf,Znf];rcases h with⟨h1,h2⟩|⟨h1,h2,h3⟩
 ·rcases qM (ZaH b)with c1|c1
  ·exact .inr (.inl ⟨c1,h2⟩)
  ·exact .inl (.inl ⟨h1,c1⟩)
 ·rcases qM (ZaH b)with c1|c1
  ·exact .inr (.inl ⟨c1,h2⟩)
  ·by_cases c2:Zbq a*ZaH b<Zbq b*ZaH a
   ·exact .inl (.inr ⟨h1,c1,c2⟩)
   ·by_cases c3:Zbq b*ZaH c<Zbq c*ZaH b
    ·exact .inr (.inr ⟨c1,h2,c3⟩)
    ·exfalso;have e1:Zbq b*ZaH a*ZaH c<=Zbq a*ZaH b*ZaH c:=Ai (by omega) (by omega);have e2:Zbq c*ZaH b*ZaH a<=Zbq b*ZaH c*ZaH a:=Ai (by omega) (by omega);have e3:Zbq c*ZaH a*ZaH b<=Zbq a*ZaH c*ZaH b:=by
      have s1:Zbq c*ZaH b*ZaH a=Zbq c*ZaH a*ZaH b:=by rw[Bq,Df (ZaH b:Int),<-Bq]
      have s2:Zbq b*ZaH c*ZaH a=Zbq b*ZaH a*ZaH c:=by rw[Bq,Df (ZaH c:Int),<-Bq]
      have s3:Zbq a*ZaH b*ZaH c=Zbq a*ZaH c*ZaH b:=by rw[Bq,Df (ZaH b:Int),<-Bq]
      omega
     have:=ZAu c1 e3;omega
def Zgz (p:Nat->List Int)(j k:Nat):Prop:=Zcg (p j) (p k)<0\/(¬Zcg (p k) (p j)<0/\j<k)
theorem Ztd (p:Nat->List Int):Ord (Zgz p) where
 asymm:=λ a b h1 h2=>by
  rcases h1 with h1|⟨h1,h3⟩<;>rcases h2 with h2|⟨h2,h4⟩
  ·exact ZqJ h1 h2
  ·exact h2 h1
  ·exact h1 h2
  ·omega
 trans:=λ a b c h1 h2=>by
  rcases h1 with h1|⟨h1,h3⟩
  ·rcases Zng (p c) h1 with h|h
   ·exact .inl h
   ·rcases h2 with h2|⟨h2,h4⟩
    ·exact absurd h (ZqJ h2)
    ·exact absurd h h2
  ·rcases h2 with h2|⟨h2,h4⟩
   ·rcases Zng (p a) h2 with h|h
    ·exact absurd h h1
    ·exact .inl h
   ·refine .inr ⟨λ h=>?_,by omega⟩;rcases Zng (p b) h with h|h
    ·exact h2 h
    ·exact h1 h
 total:=λ a b h=>by
  by_cases h1:Zcg (p a) (p b)<0
  ·exact .inl (.inl h1)
  ·by_cases h2:Zcg (p b) (p a)<0
   ·exact .inr (.inl h2)
   ·rcases uE a b with h3|h3
    ·exact .inl (.inr ⟨h2,h3⟩)
    ·exact .inr (.inr ⟨h1,by omega⟩)
theorem ZBd {p:Nat->List Int}{j k:Nat}(h:j<k):Zcg (p k) (p j)<0↔Zgz p k j:=
 ⟨λ c=> .inl c,λ c=>by
  rcases c with c|⟨_,c⟩
  ·exact c
  ·omega⟩
theorem Zr0 {l:List Int}{c:Nat}(h:∀x,x∈l->0<=x/\x<=c):0<=l.sum/\l.sum<=((l.length*c:Nat):Int):=by
 induction l with
 |nil=>simp
 |cons x l ih=>
  have h1:=ih λ y hy=>h y (uO _ hy)
  have h2:=h x (by simp);rw[jI,yB,qJ];omega
theorem ZxE (l:List Int):ZaH l<=4096:=by
 unfold ZaH Zkk;split
 ·rename_i h;simp only[uL,uF]at h;exact h.1
 ·omega
theorem ZEN (l:List Int):0<=Zbq l/\Zbq l<=4294967296:=by
 unfold Zbq;split
 ·rename_i h;simp only[Zkk,uL,uF,uX]at h;have h1:=Zr0 (c:=1048576) h.2;have h2:l.length*1048576<=4096*1048576:=yO _ h.1;omega
 ·omega
theorem ZtK (a b:List Int):0<=Zbq a*ZaH b/\Zbq a*ZaH b<=17592186044416:=by
 have h1:=ZEN a;have h2:=ZxE b;constructor
 ·exact Int.mul_nonneg h1.1 (by omega)
 ·have h3:Zbq a*ZaH b<=4294967296*(ZaH b:Int):=Ai h1.2 (by omega);omega
variable {α:Type}{R:α->α->Prop}
theorem ZzF (h:Ord R){l:List α}{x z:α}(hs:l.Pairwise R)(hz:l.getLast?=some z)(hx:x∈l):x=z\/R x z:=by
 obtain⟨l',rfl⟩:∃l',l=l'++[z]:=by
  rcases Bz l with rfl|⟨l',w,rfl⟩
  ·simp at hz
  ·refine⟨l',?_⟩;rw[Ca]at hz|-;simp at hz;rw[hz]
 rcases yK.1 hx with hx|hx
 ·exact .inr ((gE.1 hs).2.2 x hx z (by simp))
 ·exact .inl (uS.1 hx)
theorem Zy6 (h:Ord R){l:List α}{x z:α}(hs:l.Pairwise R)(hz:l.head?=some z)(hx:x∈l):x=z\/R z x:=by
 cases l with
 |nil=>cases hx
 |cons w l=>
  have:w=z:=by simpa using hz
  subst this;rcases yF.1 hx with rfl|hx
  ·exact .inl rfl
  ·exact .inr ((kV.1 hs).1 x hx)
theorem Zr5 (h:Ord R){u v:List α}(su:u.Pairwise R)(sv:v.Pairwise R)(huv:∀x,u.getLast?=some x->∀y,v.head?=some y->R x y):(u++v).Pairwise R:=by
 refine gE.2 ⟨su,sv,λ x hx y hy=>?_⟩;obtain⟨z,hz⟩:∃z,u.getLast?=some z:=by
  cases hu:u.getLast? with
  |none=>rw[List.getLast?_eq_none_iff]at hu;subst hu;cases hx
  |some z=>exact⟨z,rfl⟩
 obtain⟨w,hw⟩:∃w,v.head?=some w:=by
  cases v with
  |nil=>cases hy
  |cons w v=>exact⟨w,rfl⟩
 have hzw:=huv z hz w hw;have hxw:R x w:=by
  rcases ZzF h su hz hx with rfl|h3
  ·exact hzw
  ·exact h.trans x z w h3 hzw
 rcases Zy6 h sv hw hy with rfl|h4
 ·exact hxw
 ·exact h.trans x w y hxw h4
theorem ZzG {l:List α}{k:Nat}{x:α}(hk:k<=l.length)(h:(l.take k).getLast?=some x):0<k/\l[k-1]? =some x:=by
 rcases qM k with rfl|h0
 ·simp at h
 ·refine⟨h0,?_⟩;rw[Bg,yJ,jE hk,qH,if_pos (by omega)]at h;exact h
theorem Zy5 {l:List α}{k:Nat}{x:α}(h:(l.drop k).head?=some x):l[k]? =some x:=by
 rw[List.head?_drop]at h;exact h
theorem ZB3 (h:Ord R){A:List α}{y:α}{i:Nat}(hi:i<=A.length)(hA:A.Pairwise R)(h1:∀x,0<i->A[i-1]? =some x->R x y)(h2:∀x,A[i]? =some x->R y x):
  (A.take i++y::A.drop i).Pairwise R:=by
 have sp:=gJ i A;rw[<-sp]at hA;obtain⟨s1,s2,_⟩:=gE.1 hA;have e:A.take i++y::A.drop i=(A.take i++[y])++A.drop i:=by simp
 rw[e];refine Zr5 h (Zr5 h s1 (zC _ _) λ x hx z hz=>?_) s2 λ x hx z hz=>?_
 ·obtain⟨h3,h4⟩:=ZzG hi hx;have:y=z:=by simpa using hz
  subst this;exact h1 x h3 h4
 ·have:y=x:=by simpa using hx
  subst this;exact h2 z (Zy5 hz)
end Go.Stb
namespace Go.Cy
open Go.Bd (Part)
abbrev NA :=Nat×Nat
def Acy (l:List NA):Prop:=∃r:Nat->Nat,∀a,a∈l->a.1≠a.2->r a.1<r a.2
def InN (n:Nat)(l:List NA):Prop:=∀a,a∈l->a.1<n/\a.2<n
def Src (l:List NA)(G:List Nat)(v:Nat):Prop:=∀a,a∈l->a.2=v->a.1≠v->a.1∈G
def ZfF (l:List NA)(G:List Nat):Prop:=∃r:Nat->Nat,(∀v,v∈G->r v<G.length)/\∀a,a∈l->a.1≠a.2->a.2∈G->a.1∈G/\r a.1<r a.2
theorem ZfF.cons {l:List NA}{G:List Nat}{v:Nat}(h:ZfF l G)(hv:v∉G)(hs:Src l G v):ZfF l (v::G):=by
 obtain⟨r,h1,h2⟩:=h;refine⟨λ u=>if u=v then G.length else r u,?_,?_⟩
 ·intro u hu;dsimp only;by_cases c:u=v
  ·simp[c]
  ·rw[if_neg c];have:=h1 u (by simpa[c]using hu);simp;omega
 ·intro a ha hn h3;dsimp only;by_cases c:a.2=v
  ·have h4:=hs a ha c (by rw[<-c];exact hn);have h5:a.1≠v:=λ h=>hv (h▸h4)
   refine⟨uO _ h4,?_⟩;rw[if_neg h5,if_pos c];exact h1 _ h4
  ·have h4:=h2 a ha hn (by simpa[c]using h3);have h5:a.1≠v:=λ h=>hv (h▸h4.1)
   refine⟨uO _ h4.1,?_⟩;rw[if_neg h5,if_neg c];exact h4.2
theorem ZfF.all {n:Nat}{l:List NA}{G:List Nat}(h:ZfF l G)(hi:InN n l)(hg:∀v,v<n->v∈G):Acy l:=by
 obtain⟨r,_,h2⟩:=h;exact⟨r,λ a ha hn=>(h2 a ha hn (hg _ (hi a ha).2)).2⟩
theorem nd_le :∀{n:Nat} {G:List Nat},G.Nodup->(∀v,v∈G->v<n)->G.length<=n
 |0,[],_,_=>by simp
 |0,v::_,_,h=>by have:=h v (by simp);omega
 |n+1,G,hn,h=>by
  have:= @nd_le n (G.erase n) (hn.erase _) λ v hv=>by
   have h1:=(List.Nodup.mem_erase_iff hn).1 hv;have:=h v h1.2;omega
  have:=List.length_erase_le (a:=n) (l:=G);have:G.length<=(G.erase n).length+1:=by rw[List.length_erase];split<;>omega
  omega
theorem nd_all :∀{n:Nat} {G:List Nat},G.Nodup->(∀v,v∈G->v<n)->n<=G.length->∀v,v<n->v∈G:=by
 intro n G hn h hl v hv;refine Bh λ hc=>?_
 have:= @nd_le n (v::G) (yW.2 ⟨hc,hn⟩) λ u hu=>by
  rcases yF.1 hu with rfl|hu
  ·exact hv
  ·exact h u hu
 simp at this;omega
def ZjB (n:Nat)(l:List NA)(G:List Nat):Prop:=∀v,v<n->v∉G->¬Src l G v
theorem stuck_all {n:Nat}{l:List NA}{G:List Nat}(hi:InN n l)(ha:Acy l)(hs:ZjB n l G):∀v,v<n->v∈G:=by
 obtain⟨r,hr⟩:=ha;have:∀(k v:Nat),r v<k->v<n->v∈G:=by
  intro k
  induction k with
  |zero=>intro v h;omega
  |succ k ih=>
   intro v hk hv;refine Bh λ hc=>hs v hv hc ?_
   intro a ha h2 h1;have h3:=hr a ha (by rw[h2];exact h1);rw[h2]at h3;exact ih a.1 (by omega) (hi a ha).1
 exact λ v hv=>this (r v+1) v (by omega) hv
def Za5 (l:List NA)(set:List Nat):List NA:=l.mapIdx λ i a=>if i∈set then(a.2,a.1)else a
theorem flipN_get {l:List NA}{set:List Nat}{k:Nat}{a:NA}(h:l[k]? =some a):(Za5 l set)[k]? =some (if k∈set then(a.2,a.1)else a):=by
 simp[Za5,List.getElem?_mapIdx,h]
theorem flipN_len (l:List NA)(set:List Nat):(Za5 l set).length=l.length:=by simp[Za5]
theorem flipN_mem {l:List NA}{set:List Nat}{b:NA}(h:b∈Za5 l set):∃k a,l[k]? =some a/\b=if k∈set then(a.2,a.1)else a:=by
 obtain⟨k,hk⟩:=yV.1 h;have hlt:k<l.length:=by have:=(uB.1 hk).1;rw[flipN_len]at this;exact this
 refine⟨k,l[k],uR hlt,?_⟩;have:=flipN_get (set:=set) (uR hlt);rw[hk]at this;exact zR this
theorem flipN_nil (l:List NA):Za5 l []=l:=by
 refine qA λ u=>?_
 rcases uE u l.length with h|h
 ·rw[flipN_get (uR h)];simp[h]
 ·rw[uN (by rw[flipN_len];exact h),uN h]
abbrev Asc (l:List Nat):Prop:=l.Pairwise (·<·)
theorem Zk7 :∀{a b:List Nat},Asc a->Asc b->(∀x,x∈a↔x∈b)->a=b
 |[],[],_,_,_=>rfl
 |[],y::b,_,_,h=>by have:=(h y).2 (by simp);simp at this
 |x::a,[],_,_,h=>by have:=(h x).1 (by simp);simp at this
 |x::a,y::b,ha,hb,h=>by
  rw[Asc,kV]at ha hb;have e:x=y:=by
   have h1:=(h x).1 (by simp);have h2:=(h y).2 (by simp);rcases yF.1 h1 with h1|h1
   ·exact h1
   ·rcases yF.1 h2 with h2|h2
    ·exact h2.symm
    ·have:=hb.1 _ h1;have:=ha.1 _ h2;omega
  subst e;rw[Zk7 ha.2 hb.2 λ z=>?_];constructor
  ·intro hz;have:=ha.1 _ hz;rcases yF.1 ((h z).1 (uO _ hz))with rfl|h3
   ·omega
   ·exact h3
  ·intro hz;have:=hb.1 _ hz;rcases yF.1 ((h z).2 (uO _ hz))with rfl|h3
   ·omega
   ·exact h3
theorem Zk8 (p:Nat->Bool)(m:Nat):Asc ((List.range m).filter p):=Cg _ kK
def Zfm (l:List NA)(set:List Nat):Prop:=Asc set/\∀i,i∈set->∃a,l[i]? =some a/\a.1≠a.2
def bwd (M:List Nat)(a:NA):Bool:=decide (M.idxOf a.2<M.idxOf a.1)
def Zgj (M:List Nat)(l:List NA)(i:Nat):Bool:=match l[i]? with
 |some a=>bwd M a
 |none=>false
def ZaY (M:List Nat)(l:List NA):List Nat:=(List.range l.length).filter (Zgj M l)
theorem ZlK {M:List Nat}{l:List NA}{i:Nat}:i∈ZaY M l↔∃a,l[i]? =some a/\bwd M a=true:=by
 simp only[ZaY,zQ,uZ,Zgj];constructor
 ·rintro⟨h1,h2⟩;rw[uR h1]at h2|-;exact⟨_,rfl,h2⟩
 ·rintro⟨a,h1,h2⟩;refine⟨(uB.1 h1).1,?_⟩;rw[h1];exact h2
theorem Zw7 {M:List Nat}{a:NA}(h:bwd M a=true):a.1≠a.2:=by
 intro e;simp only[bwd,uF,e]at h;omega
theorem Zzb {M:List Nat}{u v:Nat}(hu:u∈M)(hv:v∈M)(h:M.idxOf u=M.idxOf v):u=v:=by
 have h1:=zN (gS hu);have h2:=zN (gS hv);simp only[h]at h1;exact h1.symm.trans h2
theorem Part.mem {n:Nat}{M:List Nat}(h:Part n 0 M){v:Nat}(hv:v<n):v∈M:=nd_all h.nd h.lt (by have:=h.len;omega) v hv
def ZbN :List Nat->List Nat->Bool
 |x::a,y::b=>if x=y then ZbN a b else decide (x<y)
 |[],_=>false
 |_::_,[]=>false
def Zbu (a b:List Nat):Bool:=if a.length=b.length then ZbN a b else decide (a.length<b.length)
theorem lexLt_irr :∀a,ZbN a a=false
 |[]=>rfl
 |x::a=>by simp[ZbN,lexLt_irr a]
theorem Zsl :∀{a b:List Nat},a.length=b.length->ZbN a b=false->ZbN b a=false->a=b
 |[],[],_,_,_=>rfl
 |[],_::_,h,_,_=>by simp at h
 |_::_,[],h,_,_=>by simp at h
 |x::a,y::b,h,h1,h2=>by
  simp only[ZbN]at h1 h2;by_cases c:x=y
  ·subst c;simp only[if_true]at h1 h2;rw[Zsl (by simpa using h) h1 h2]
  ·rw[if_neg c]at h1;rw[if_neg (Ne.symm c)]at h2;simp at h1 h2;omega
theorem Zsj {a b:List Nat}(h1:Zbu a b=false)(h2:Zbu b a=false):a=b:=by
 simp only[Zbu]at h1 h2;by_cases c:a.length=b.length
 ·rw[if_pos c]at h1;rw[if_pos c.symm]at h2;exact Zsl c h1 h2
 ·rw[if_neg c]at h1;rw[if_neg (Ne.symm c)]at h2;simp at h1 h2;omega
theorem Zn2 :∀{a b:List Nat},ZbN a b=true->ZbN b a=false
 |[],b,h=>by cases b<;>simp[ZbN]at h
 |_::_,[],h=>by simp[ZbN]at h
 |x::a,y::b,h=>by
  simp only[ZbN]at h|-;by_cases c:x=y
  ·subst c;simp only[if_true]at h|-;exact Zn2 h
  ·rw[if_neg c]at h;rw[if_neg (Ne.symm c)];simp at h|-;omega
theorem ZzY {a b:List Nat}(h:Zbu a b=true):Zbu b a=false:=by
 simp only[Zbu]at h|-;by_cases c:a.length=b.length
 ·rw[if_pos c]at h;rw[if_pos c.symm];exact Zn2 h
 ·rw[if_neg c]at h;rw[if_neg (Ne.symm c)];simp at h|-;omega
theorem Zsm :∀{a b c:List Nat},ZbN a b=true->ZbN b c=true->ZbN a c=true
 |[],b,_,h,_=>by cases b<;>simp[ZbN]at h
 |_::_,[],_,h,_=>by simp[ZbN]at h
 |_::_,_::_,[],_,h=>by simp[ZbN]at h
 |x::a,y::b,z::c,h1,h2=>by
  simp only[ZbN]at h1 h2|-;by_cases e1:x=y
  ·subst e1;rw[if_pos rfl]at h1;by_cases e2:x=z
   ·subst e2;rw[if_pos rfl]at h2|-;exact Zsm h1 h2
   ·rw[if_neg e2]at h2|-;exact h2
  ·rw[if_neg e1]at h1;by_cases e2:y=z
   ·subst e2;rw[if_neg e1];exact h1
   ·rw[if_neg e2]at h2;simp at h1 h2;rw[if_neg (by omega)];simp;omega
theorem Zz0 {a b c:List Nat}(h1:Zbu a b=true)(h2:Zbu b c=true):Zbu a c=true:=by
 simp only[Zbu]at*;by_cases e1:a.length=b.length
 ·rw[if_pos e1]at h1;by_cases e2:b.length=c.length
  ·rw[if_pos e2]at h2;rw[if_pos (e1.trans e2)];exact Zsm h1 h2
  ·rw[if_neg e2]at h2;rw[if_neg (by omega)];simp at h2|-;omega
 ·rw[if_neg e1]at h1;by_cases e2:b.length=c.length
  ·rw[if_neg (by omega)];simp at h1|-;omega
  ·rw[if_neg e2]at h2;simp at h1 h2;rw[if_neg (by omega)];simp;omega
theorem Zsn :∀{a b:List Nat} {j:Nat},Asc a->Asc b->a.length=b.length->j∈a->j∉b->(∀i,i<j->(i∈a↔i∈b))->ZbN a b=true
 |[],_,_,_,_,_,h,_,_=>by simp at h
 |_::_,[],_,_,_,h,_,_,_=>by simp at h
 |x::a,y::b,j,ha,hb,hl,h1,h2,h3=>by
  rw[Asc,kV]at ha hb;simp only[ZbN];by_cases c:x=y
  ·subst c;rw[if_pos rfl];rcases yF.1 h1 with rfl|h1
   ·exact(h2 (by simp)).elim
   ·refine Zsn ha.2 hb.2 (by simpa using hl) h1 (λ h=>h2 (uO _ h)) λ i hi=>?_
    have h4:=h3 i hi;constructor
    ·intro h5;have:=ha.1 _ h5;rcases yF.1 (h4.1 (uO _ h5))with rfl|h6
     ·omega
     ·exact h6
    ·intro h5;have:=hb.1 _ h5;rcases yF.1 (h4.2 (uO _ h5))with rfl|h6
     ·omega
     ·exact h6
  ·rw[if_neg c];refine yD (Bh λ h=>?_);have hy:y<x:=by omega
   have hx:x<=j:=by
    rcases yF.1 h1 with rfl|h1
    ·exact uJ _
    ·have:=ha.1 _ h1;omega
   rcases yF.1 ((h3 y (by omega)).2 (by simp))with e|h4
   ·omega
   ·have:=ha.1 _ h4;omega
theorem Ztx {a b:List Nat}(h:a.Perm b):a.sum=b.sum:=by
 induction h with
 |nil=>rfl
 |cons x _ ih=>simp[ih]
 |swap x y l=>simp;omega
 |trans _ _ h1 h2=>exact h1.trans h2
theorem ZlR {α:Type}{l:List α}:l.reverse.Nodup↔l.Nodup:=by
 simp only[List.Nodup,List.pairwise_reverse,ne_comm]
def bkR (c:Nat->Nat->Nat):List Nat->Nat
 |[]=>0
 |v::P=>bkR c P+(P.map (c v)).sum
def ZeU (F:Nat->Nat->Bool):List Nat->Prop
 |[]=>True
 |v::P=>ZeU F P/\∀u,F v u=true->u∈P
def bits (n s:Nat):List Nat:=(List.range n).filter λ u=>s.testBit u
theorem mem_bits {n s u:Nat}:u∈bits n s↔u<n/\s.testBit u=true:=by simp[bits]
theorem clr :∀s,s<256->∀v,v<8->s.testBit v=true->s-2^v<s/\∀u,u<8->(s-2^v).testBit u=(s.testBit u&& !decide (u=v)):=by decide+kernel
def inB (n a b:Nat):Bool:=(List.range n).all λ u=> !a.testBit u||b.testBit u
theorem inB_iff {n a b:Nat}:inB n a b=true↔∀u,u<n->a.testBit u=true->b.testBit u=true:=by
 simp only[inB,uX,uZ,qZ,yC];constructor
 ·intro h u hu ha;rcases h u hu with h|h
  ·rw[h]at ha;cases ha
  ·exact h
 ·intro h u hu;cases ha:a.testBit u
  ·exact .inl rfl
  ·exact .inr (h u hu ha)
def Ze6 (p:Nat->Bool)(g:Nat->Nat)(L:List Nat)(m:Nat):Nat:=L.foldl (λ acc v=>if p v then min acc (g v)else acc) m
theorem foldMin_le {p:Nat->Bool}{g:Nat->Nat}:∀{L:List Nat} {m:Nat},Ze6 p g L m<=m/\∀v,v∈L->p v=true->Ze6 p g L m<=g v
 |[],m=>⟨uJ _,by simp⟩
 |w::L,m=>by
  have ih:= @foldMin_le p g L (if p w then min m (g w)else m);have e:Ze6 p g (w::L) m=Ze6 p g L (if p w then min m (g w)else m):=rfl;rw[e];have h1:(if p w then min m (g w)else m)<=m:=by split<;>omega
  refine⟨by omega,λ v hv hp=>?_⟩;rcases yF.1 hv with rfl|hv
  ·have:(if p v then min m (g v)else m)<=g v:=by rw[if_pos hp];omega
   omega
  ·exact ih.2 v hv hp
theorem Zrv {p:Nat->Bool}{g:Nat->Nat}:∀{L:List Nat} {m:Nat},Ze6 p g L m=m\/∃v,v∈L/\p v=true/\Ze6 p g L m=g v
 |[],m=> .inl rfl
 |w::L,m=>by
  have ih:= @Zrv p g L (if p w then min m (g w)else m);have e:Ze6 p g (w::L) m=Ze6 p g L (if p w then min m (g w)else m):=rfl;rw[e];rcases ih with h|⟨v,h1,h2,h3⟩
  ·rw[h];by_cases c:p w=true
   ·rw[if_pos c];rcases Nat.le_total m (g w)with h4|h4
    ·left;omega
    ·right;exact⟨w,by simp,c,by omega⟩
   ·rw[if_neg c];exact .inl rfl
  ·exact .inr ⟨v,uO _ h1,h2,h3⟩
def atN (l:List Nat)(i:Nat):Nat:=(l[i]?).getD 0
def Zeu (n:Nat)(fm:List Nat)(s v:Nat):Bool:=s.testBit v&&inB n (atN fm v) (s-2^v)
def Zfs (n:Nat)(c:Nat->Nat->Nat)(L:List Nat)(s v:Nat):Nat:=atN L (s-2^v)+((bits n (s-2^v)).map (c v)).sum
def ZdN (n:Nat)(c:Nat->Nat->Nat)(fm L:List Nat)(s:Nat):Nat:=Ze6 (Zeu n fm s) (Zfs n c L s) (List.range n) 1048576
def Zco (n:Nat)(c:Nat->Nat->Nat)(fm:List Nat):Nat->List Nat
 |0=>[0]
 |k+1=>Zco n c fm k++[ZdN n c fm (Zco n c fm k) (k+1)]
theorem costL_len (n:Nat)(c:Nat->Nat->Nat)(fm:List Nat)(k:Nat):(Zco n c fm k).length=k+1:=by
 induction k with
 |zero=>rfl
 |succ k ih=>simp[Zco,ih]
def ZcS (n:Nat)(c:Nat->Nat->Nat)(fm:List Nat)(s:Nat):Nat:=atN (Zco n c fm s) s
theorem costL_at (n:Nat)(c:Nat->Nat->Nat)(fm:List Nat){k s:Nat}(h:s<=k):atN (Zco n c fm k) s=ZcS n c fm s:=by
 induction k with
 |zero=>obtain rfl:s=0:=by omega
        rfl
 |succ k ih=>
  rcases uE s (k+1)with h1|h1
  ·rw[<-ih (by omega)];simp only[atN,Zco];rw[qE (by rw[costL_len];omega)]
  ·obtain rfl:s=k+1:=by omega
   rfl
theorem costN_zero (n:Nat)(c:Nat->Nat->Nat)(fm:List Nat):ZcS n c fm 0=0:=rfl
theorem costN_succ (n:Nat)(c:Nat->Nat->Nat)(fm:List Nat)(k:Nat):ZcS n c fm (k+1)=ZdN n c fm (Zco n c fm k) (k+1):=by
 simp only[ZcS,atN,Zco];rw[qF (by rw[costL_len];omega),costL_len];simp
def ZeB (n:Nat)(c:Nat->Nat->Nat)(fm:List Nat):Nat:=ZcS n c fm (2^n-1)
def fmF (fm:List Nat)(v u:Nat):Bool:=(atN fm v).testBit u
def ZeW (n s:Nat)(R:List Nat):Prop:=R.Nodup/\∀u,u∈R↔u<n/\s.testBit u=true
theorem pow_le8 {n:Nat}(h:n<=8):2^n<=256:=kD (n:=2) (by decide) h
theorem Zqp {n s:Nat}{R:List Nat}(h:ZeW n s R):R.Perm (bits n s):=
 (Ay h.1 (List.nodup_range.filter _)).2 λ u=>(h.2 u).trans mem_bits.symm
theorem ZeW.tail {n s v:Nat}{P:List Nat}(h8:n<=8)(hs:s<2^n)(h:ZeW n s (v::P)):v<n/\s.testBit v=true/\s-2^v<s/\ZeW n (s-2^v) P:=by
 have:=pow_le8 h8;obtain⟨h1,h2⟩:=(h.2 v).1 (by simp);obtain⟨h3,h4⟩:=clr s (by omega) v (by omega) h2;have hn:=yW.1 h.1;refine⟨h1,h2,h3,hn.2,λ u=>?_⟩;constructor
 ·intro hu;obtain⟨h5,h6⟩:=(h.2 u).1 (uO _ hu);refine⟨h5,?_⟩;rw[h4 u (by omega),h6];have:u≠v:=λ e=>hn.1 (e▸hu)
  simp[this]
 ·rintro⟨h5,h6⟩;rw[h4 u (by omega)]at h6;simp only[uL,yC,qC]at h6;rcases yF.1 ((h.2 u).2 ⟨h5,h6.1⟩)with e|h7
  ·exact(h6.2 e).elim
  ·exact h7
theorem ZeW.cons {n s v:Nat}{P:List Nat}(h8:n<=8)(hs:s<2^n)(hv:v<n)(hb:s.testBit v=true)(h:ZeW n (s-2^v) P):ZeW n s (v::P):=by
 have:=pow_le8 h8;obtain⟨h3,h4⟩:=clr s (by omega) v (by omega) hb;refine⟨yW.2 ⟨λ hc=>?_,h.1⟩,λ u=>?_⟩
 ·have:=((h.2 v).1 hc).2;rw[h4 v (by omega)]at this;simp at this
 ·rw[yF,h.2];constructor
  ·rintro(rfl|⟨h5,h6⟩)
   ·exact⟨hv,hb⟩
   ·rw[h4 u (by omega)]at h6;simp only[uL]at h6;exact⟨h5,h6.1⟩
  ·rintro⟨h5,h6⟩;by_cases e:u=v
   ·exact .inl e
   ·right
    refine⟨h5,?_⟩;rw[h4 u (by omega),h6];simp[e]
theorem ZBe {n s:Nat}(hs:s<2^n)(h:ZeW n s []):s=0:=by
 refine Az λ u=>?_
 rw[Cb];rcases uE u n with hu|hu
 ·cases hb:s.testBit u
  ·rfl
  ·have:=(h.2 u).2 ⟨hu,hb⟩;cases this
 ·exact zI (gG hs (kD (by decide) hu))
theorem Znl {n:Nat}(h8:n<=8)(c:Nat->Nat->Nat)(fm:List Nat):∀(R:List Nat) (s:Nat),s<2^n->ZeW n s R->ZeU (fmF fm) R->ZcS n c fm s<=bkR c R
 |[],s,hs,ho,_=>by
  rw[ZBe hs ho,costN_zero];exact uH _
 |v::P,s,hs,ho,ha=>by
  obtain⟨h1,h2,h3,h4⟩:=ho.tail h8 hs;obtain⟨k,rfl⟩:∃k,s=k+1:=⟨s-1,by omega⟩;have ih:=Znl h8 c fm P _ (by omega) h4 ha.1;rw[costN_succ,ZdN];have hok:Zeu n fm (k+1) v=true:=by
   simp only[Zeu,h2,kH];exact inB_iff.2 λ u hu hb=>((h4.2 u).1 (ha.2 u hb)).2
  have:=(@foldMin_le (Zeu n fm (k+1)) (Zfs n c (Zco n c fm k) (k+1)) (List.range n) 1048576).2 v (uZ.2 h1) hok;refine gP this ?_;rw[Zfs,costL_at n c fm (by omega),bkR,<-Ztx ((Zqp h4).map (c v))];omega
theorem Znj {n:Nat}(h8:n<=8)(c:Nat->Nat->Nat)(fm:List Nat)(hf:∀v,atN fm v<2^n):∀(s:Nat),s<2^n->ZcS n c fm s<1048576->∃R,ZeW n s R/\ZeU (fmF fm) R/\bkR c R=ZcS n c fm s:=by
 intro s
 induction s using Nat.strongRecOn with
 |ind s ih=>
  intro hs hc;rcases qM s with rfl|hpos
  ·exact⟨[],⟨zA,by simp⟩,trivial,rfl⟩
  ·obtain⟨k,rfl⟩:∃k,s=k+1:=⟨s-1,by omega⟩;rw[costN_succ,ZdN]at hc|-;rcases @Zrv (Zeu n fm (k+1)) (Zfs n c (Zco n c fm k) (k+1)) (List.range n) 1048576 with h|⟨v,h1,h2,h3⟩
   ·omega
   ·rw[h3]at hc|-;have hv:=uZ.1 h1;simp only[Zeu,uL]at h2;have:=pow_le8 h8;obtain⟨h4,h5⟩:=clr (k+1) (by omega) v (by omega) h2.1;rw[Zfs,costL_at n c fm (by omega)]at hc|-;obtain⟨P,g1,g2,g3⟩:=ih (k+1-2^v) h4 (by omega) (by omega);refine⟨v::P,g1.cons h8 hs hv h2.1,⟨g2,λ u hu=>?_⟩,?_⟩
    ·refine(g1.2 u).2 ?_;rcases uE u n with hun|hun
     ·exact⟨hun,inB_iff.1 h2.2 u hun hu⟩
     ·have:=zI (gG (hf v) (kD (n:=2) (by decide) hun));rw[fmF,this]at hu;cases hu
    ·rw[bkR,g3,Ztx ((Zqp g1).map (c v))]
theorem Zkn {n:Nat}{R:List Nat}:ZeW n (2^n-1) R↔Part n 0 R.reverse:=by
 constructor
 ·rintro⟨h1,h2⟩;have h3:∀u,u∈R↔u<n:=λ u=>by rw[h2];simp[Cq]
  refine⟨ZlR.2 h1,λ v hv=>(h3 v).1 (qP.1 hv),?_⟩;have:=(Ay h1 kT).2 (λ u=>by rw[h3,uZ]);simpa using this.length_eq
 ·intro h;refine⟨ZlR.1 h.nd,λ u=>?_⟩;constructor
  ·intro hu;have:=h.lt u (qP.2 hu);simp[Cq,this]
  ·rintro⟨hu,_⟩;exact qP.1 (Part.mem h hu)
theorem ZBt (n:Nat):Part n 0 (List.range n):=⟨kT,λ v hv=>uZ.1 hv,by simp⟩
theorem Zf1 {P:List Nat}{v u:Nat}(hu:u∈P):(P++[v]).idxOf u=P.idxOf u:=by rw[List.idxOf_append,if_pos hu]
theorem ZjY {P:List Nat}{v:Nat}(hv:v∉P):(P++[v]).idxOf v=P.length:=by
 rw[List.idxOf_append,if_neg hv];simp
theorem ZmI {F:Nat->Nat->Bool}:∀{R:List Nat},R.Nodup->(ZeU F R↔∀v,v∈R->∀u,F v u=true->u∈R/\R.reverse.idxOf u<R.reverse.idxOf v)
 |[],_=>by simp[ZeU]
 |v::P,hn=>by
  have hn':=yW.1 hn;have hv:v∉P.reverse:=λ h=>hn'.1 (qP.1 h)
  rw[ZeU,ZmI hn'.2,List.reverse_cons];constructor
  ·rintro⟨h1,h2⟩ w hw u hu;rcases yF.1 hw with rfl|hw
   ·have h3:=h2 u hu;refine⟨uO _ h3,?_⟩;rw[ZjY hv,Zf1 (qP.2 h3)];exact gS (qP.2 h3)
   ·obtain⟨h3,h4⟩:=h1 w hw u hu;refine⟨uO _ h3,?_⟩;rw[Zf1 (qP.2 h3),Zf1 (qP.2 hw)];exact h4
  ·intro h;have key:∀w,w∈v::P->∀u,F w u=true->u∈P:=by
    intro w hw u hu;obtain⟨h3,h4⟩:=h w hw u hu;rcases yF.1 h3 with rfl|h3
    ·exfalso;rw[ZjY hv]at h4;rcases yF.1 hw with rfl|hw
     ·rw[ZjY hv]at h4;omega
     ·rw[Zf1 (qP.2 hw)]at h4;have:=gS (qP.2 hw);omega
    ·exact h3
   refine⟨λ w hw u hu=>?_,λ u hu=>key v (by simp) u hu⟩;have h3:=key w (uO _ hw) u hu;have h4:=(h w (uO _ hw) u hu).2;rw[Zf1 (qP.2 h3),Zf1 (qP.2 hw)]at h4;exact⟨h3,h4⟩
def cnt (l:List NA)(u v:Nat):Nat:=(l.filter λ a=> !decide (a.1=a.2)&&(decide (a.1=u)&&decide (a.2=v))).length
def ind (a:NA)(u v:Nat):Nat:=if a.1≠a.2/\a.1=u/\a.2=v then 1 else 0
theorem cnt_cons (a:NA)(l:List NA)(u v:Nat):cnt (a::l) u v=ind a u v+cnt l u v:=by
 simp only[cnt,ind,jP];by_cases c:a.1≠a.2/\a.1=u/\a.2=v
 ·rw[if_pos c,if_pos (by simp[c.1,c.2.1,c.2.2];intro h;exact c.1 (by rw[c.2.1,c.2.2,h]))];simp;omega
 ·rw[if_neg c,if_neg (by simp only[uL,yC,qC,uF];exact c)];simp
theorem Zu8 (f g:Nat->Nat):∀P:List Nat,(P.map λ u=>f u+g u).sum=(P.map f).sum+(P.map g).sum
 |[]=>rfl
 |x::P=>by simp[Zu8 f g P];omega
theorem Zqq (c d:Nat->Nat->Nat):∀R,bkR (λ u v=>c u v+d u v) R=bkR c R+bkR d R
 |[]=>rfl
 |v::P=>by
  simp only[bkR,Zqq c d P,Zu8];omega
theorem Zqt :∀R,bkR (λ _ _=>0) R=0
 |[]=>rfl
 |v::P=>by
  have h0:∀T:List Nat,(T.map λ _=>0).sum=0:=λ T=>by
   induction T with
   |nil=>rfl
   |cons x T ih=>rw[uT,jI,ih]
  have:=h0 P;have e:bkR (λ _ _=>0) (v::P)=bkR (λ _ _=>0) P+(P.map λ _=>0).sum:=rfl;rw[e,Zqt P,this]
theorem ZnN (a:NA)(v:Nat):∀{P:List Nat},P.Nodup->v∉P->(P.map (ind a v)).sum=if a.1=v/\a.2∈P then 1 else 0
 |[],_,_=>by simp
 |u::P,hn,hv=>by
  have hn':=yW.1 hn;rw[uT,jI,ZnN a v hn'.2 (λ h=>hv (uO _ h))];have hvu:v≠u:=λ h=>hv (by simp[h])
  simp only[ind,yF];by_cases c1:a.1=v
  ·by_cases c2:a.2=u
   ·have:a.2∉P:=c2▸hn'.1;rw[if_pos ⟨by rw[c1,c2];exact hvu,c1,c2⟩,if_neg (λ h=>this h.2),if_pos ⟨c1, .inl c2⟩]
   ·rw[if_neg (λ h=>c2 h.2.2)];by_cases c3:a.2∈P
    ·rw[if_pos ⟨c1,c3⟩,if_pos ⟨c1, .inr c3⟩]
    ·rw[if_neg (λ h=>c3 h.2),if_neg (λ h=>h.2.elim c2 c3)]
  ·rw[if_neg (λ h=>c1 h.2.1),if_neg (λ h=>c1 h.1),if_neg (λ h=>c1 h.1)]
theorem Zm3 (a:NA):∀{R:List Nat},R.Nodup->(a.1∉R\/a.2∉R)->bkR (ind a) R=0
 |[],_,_=>rfl
 |v::P,hn,h=>by
  have hn':=yW.1 hn;rw[bkR,Zm3 a hn'.2 (h.imp (λ h h'=>h (uO _ h')) (λ h h'=>h (uO _ h'))),ZnN a v hn'.2 hn'.1,if_neg];rintro⟨h1,h2⟩;rcases h with h|h
  ·exact h (by simp[h1])
  ·exact h (uO _ h2)
theorem Zqs (a:NA):∀{R:List Nat},R.Nodup->a.1∈R->a.2∈R->bkR (ind a) R=if bwd R.reverse a then 1 else 0
 |[],_,h,_=>by cases h
 |v::P,hn,h1,h2=>by
  have hn':=yW.1 hn;have hv:v∉P.reverse:=λ h=>hn'.1 (qP.1 h)
  rw[bkR,ZnN a v hn'.2 hn'.1,List.reverse_cons];by_cases c1:a.1=v
  ·rw[Zm3 a hn'.2 (.inl (c1▸hn'.1))];by_cases c2:a.2=v
   ·rw[if_neg (λ h=>hn'.1 (c2▸h.2)),if_neg (by simp[bwd,c1,c2])]
   ·have h3:=(yF.1 h2).resolve_left c2;have h4:=gS (qP.2 h3);rw[if_pos ⟨c1,h3⟩,if_pos (by simp only[bwd,c1,uF];rw[ZjY hv,Zf1 (qP.2 h3)];exact h4)]
  ·rw[if_neg (λ h=>c1 h.1)];have h3:=(yF.1 h1).resolve_left c1;by_cases c2:a.2=v
   ·rw[Zm3 a hn'.2 (.inr (c2▸hn'.1)),if_neg];have h4:=gS (qP.2 h3);simp only[bwd,c2,uF];rw[ZjY hv,Zf1 (qP.2 h3)];omega
   ·have h5:=(yF.1 h2).resolve_left c2;have e:bwd (P.reverse++[v]) a=bwd P.reverse a:=by
     simp only[bwd];rw[Zf1 (qP.2 h3),Zf1 (qP.2 h5)]
    rw[Zqs a hn'.2 h3 h5,e,gX]
theorem Zqr :∀(l:List NA) {R:List Nat},R.Nodup->(∀a,a∈l->a.1∈R/\a.2∈R)->bkR (cnt l) R=(l.filter (bwd R.reverse)).length
 |[],R,_,_=>by
  have:cnt []=λ _ _=>0:=rfl
  rw[this,Zqt];rfl
 |a::l,R,hn,h=>by
  have e:cnt (a::l)=λ u v=>ind a u v+cnt l u v:=funext λ u=>funext λ v=>cnt_cons a l u v
  rw[e,Zqq,Zqr l hn (λ b hb=>h b (uO _ hb)),Zqs a hn (h a (by simp)).1 (h a (by simp)).2,jP];split
  ·simp;omega
  ·simp
theorem Zqf (M:List Nat)(l:List NA):(ZaY M l).length=(l.filter (bwd M)).length:=by
 have:∀k,k<=l.length->((List.range k).filter (Zgj M l)).length=((l.take k).filter (bwd M)).length:=by
  intro k
  induction k with
  |zero=>intro _;rfl
  |succ k ih=>
   intro hk;have hg:=uR (show k<l.length by omega);rw[qN,gC,uG,ih (by omega),List.take_add_one,hg,gC,uG];simp only[Option.toList,jP,jX,Zgj,hg];split<;>rfl
 have h:=this l.length (uJ _);rw[yE]at h;exact h
theorem Zm2 {n:Nat}{l:List NA}{R:List Nat}(hi:InN n l)(hR:Part n 0 R.reverse):bkR (cnt l) R=(ZaY R.reverse l).length:=by
 have hm:∀u,u<n->u∈R:=λ u hu=>qP.1 (Part.mem hR hu)
 rw[Zqr l (ZlR.1 hR.nd) (λ a ha=>⟨hm _ (hi a ha).1,hm _ (hi a ha).2⟩),Zqf]
def ZbU (fm:List Nat)(v u:Nat):List Nat:=fm.set v (atN fm v|||2^u)
def ZfS (n:Nat)(c:Nat->Nat->Nat)(size:Nat)(k:Nat)(a:NA)(st:List Nat×List Nat):List Nat×List Nat:=
 if a.1=a.2 then st else if ZeB n c (ZbU st.1 a.1 a.2)=size then(ZbU st.1 a.1 a.2,st.2++[k])else(ZbU st.1 a.2 a.1,st.2)
def ZcH (n:Nat)(c:Nat->Nat->Nat)(size:Nat)(l:List NA):Nat->List Nat×List Nat
 |0=>(List.replicate n 0,[])
 |k+1=>match l[k]? with
  |some a=>ZfS n c size k a (ZcH n c size l k)
  |none=>ZcH n c size l k
def ZbC (n:Nat)(l:List NA):Nat:=ZeB n (cnt l) (List.replicate n 0)
def Zbk (n:Nat)(l:List NA):List Nat:=(ZcH n (cnt l) (ZbC n l) l l.length).2
theorem Zqa {fm:List Nat}{v u w:Nat}(hv:v<fm.length):atN (ZbU fm v u) w=if w=v then atN fm v|||2^u else atN fm w:=by
 simp only[atN,ZbU,qL];by_cases c:v=w
 ·subst c;simp[hv]
 ·rw[if_neg c,if_neg (Ne.symm c)]
theorem ZyP {fm:List Nat}{v u w x:Nat}(hv:v<fm.length):fmF (ZbU fm v u) w x=(fmF fm w x||(decide (w=v)&&decide (x=u))):=by
 simp only[fmF,Zqa hv];by_cases c:w=v
 ·subst c;rw[if_pos rfl,Nat.testBit_or,Nat.testBit_two_pow];by_cases c2:x=u
  ·simp[c2]
  ·simp[c2,Ne.symm c2]
 ·simp[c]
theorem orAt_lt {n:Nat}{fm:List Nat}{v u:Nat}(hv:v<fm.length)(hu:u<n)(h:∀w,atN fm w<2^n):∀w,atN (ZbU fm v u) w<2^n:=by
 intro w;rw[Zqa hv];split
 ·exact Nat.or_lt_two_pow (h v) (Ba (by decide) hu)
 ·exact h w
structure Dec (n:Nat)(l:List NA)(k:Nat)(fm D:List Nat):Prop where
 len:fm.length=n
 lt:∀w,atN fm w<2^n
 asc:Asc D
 below:∀i,i∈D->i<k
 adm:∀R,Part n 0 R.reverse->(ZeU (fmF fm) R↔∀j,j<k->(j∈D↔j∈ZaY R.reverse l))
 some:∃R,Part n 0 R.reverse/\ZeU (fmF fm) R/\bkR (cnt l) R=ZbC n l
 first:∀R,Part n 0 R.reverse->bkR (cnt l) R=ZbC n l->(∀j,j<k->(j∈D↔j∈ZaY R.reverse l))\/∃j,j<k/\j∈D/\j∉ZaY R.reverse l/\∀i,i<j->(i∈D↔i∈ZaY R.reverse l)
theorem Zyx {α:Type}(p:α->Bool)(l:List α):(l.filter p).length<=l.length:=gN _ _
theorem atN_rep (n w:Nat):atN (List.replicate n 0) w=0:=by
 simp only[atN,gH];split<;>rfl
theorem Zp1 (n:Nat)(R:List Nat):ZeU (fmF (List.replicate n 0)) R:=by
 induction R with
 |nil=>trivial
 |cons v P ih=>exact⟨ih,λ u hu=>by rw[fmF,atN_rep,Cb]at hu;cases hu⟩
theorem pow_pos' (n:Nat):0<2^n:=Nat.pow_pos (by decide)
theorem Zo0 {n:Nat}{l:List NA}(h8:n<=8){R:List Nat}(hR:Part n 0 R.reverse):ZbC n l<=bkR (cnt l) R:=by
 have:=pow_pos' n;exact Znl h8 _ _ R _ (by omega) (Zkn.2 hR) (Zp1 n R)
theorem ZwY {n:Nat}{l:List NA}(hi:InN n l){R:List Nat}(hR:Part n 0 R.reverse):bkR (cnt l) R<=l.length:=by
 rw[Zm2 hi hR,Zqf];exact Zyx _ _
theorem ZuG {n:Nat}{l:List NA}(h8:n<=8)(hi:InN n l):ZbC n l<=l.length:=by
 have hR:Part n 0 (List.range n).reverse.reverse:=by rw[zB];exact ZBt n
 exact gP (Zo0 h8 hR) (ZwY hi hR)
theorem ZxZ {n:Nat}{l:List NA}(h8:n<=8)(hi:InN n l)(hl:l.length<1048576):Dec n l 0 (List.replicate n 0) [] where
 len:=by simp
 lt:=λ w=>by rw[atN_rep];exact pow_pos' n
 asc:=List.Pairwise.nil
 below:=by simp
 adm:=λ R _=>⟨λ _ j h=>by omega,λ _=>Zp1 n R⟩
 some:=by
  have:=pow_pos' n;have:=ZuG h8 hi;obtain⟨R,h1,h2,h3⟩:=Znj h8 (cnt l) (List.replicate n 0) (λ w=>by rw[atN_rep];exact pow_pos' n) (2^n-1) (by omega) (by have:ZcS n (cnt l) (List.replicate n 0) (2^n-1)=ZbC n l:=rfl;omega);exact⟨R,Zkn.1 h1,h2,h3⟩
 first:=λ R _ _=> .inl λ j h=>by omega
theorem ZkW {n:Nat}{fm R:List Nat}{v u:Nat}(hv:v<fm.length)(hf:fm.length=n)(hu:u<n)(hR:Part n 0 R.reverse):ZeU (fmF (ZbU fm v u)) R↔ZeU (fmF fm) R/\R.reverse.idxOf u<R.reverse.idxOf v:=by
 have hn:=ZlR.1 hR.nd;have hm:∀u,u<n->u∈R:=λ u hu=>qP.1 (Part.mem hR hu)
 rw[ZmI hn,ZmI hn];simp only[ZyP hv,qZ,uL,uF];constructor
 ·intro h;exact⟨λ w hw x hx=>h w hw x (.inl hx),(h v (hm v (by omega)) u (.inr ⟨rfl,rfl⟩)).2⟩
 ·rintro⟨h1,h2⟩ w hw x (hx|⟨rfl,rfl⟩)
  ·exact h1 w hw x hx
  ·exact⟨hm x hu,h2⟩
theorem ZxY {n:Nat}{l:List NA}(h8:n<=8)(hi:InN n l)(hl:l.length<1048576){k:Nat}{a:NA}(ha:l[k]? =some a){st:List Nat×List Nat}(h:Dec n l k st.1 st.2):
  Dec n l (k+1) (ZfS n (cnt l) (ZbC n l) k a st).1 (ZfS n (cnt l) (ZbC n l) k a st).2:=by
 obtain⟨fm,D⟩:=st;dsimp only at h;have hin:=hi a (uA ha);have hkD:k∉D:=λ hc=>by have:=h.below k hc;omega
 have hmem:∀M:List Nat,k∈ZaY M l↔bwd M a=true:=λ M=>by
  rw[ZlK];constructor
  ·rintro⟨b,hb,h2⟩;rw[ha]at hb;cases hb;exact h2
  ·intro h2;exact⟨a,ha,h2⟩
 have hpos:=pow_pos' n;have hsz:=ZuG h8 hi;simp only[ZfS];by_cases c:a.1=a.2
 ·rw[if_pos c];have hnb:∀M:List Nat,k∉ZaY M l:=λ M hc=>Zw7 ((hmem M).1 hc) c
  have hext:∀M:List Nat,(∀j,j<k+1->(j∈D↔j∈ZaY M l))↔∀j,j<k->(j∈D↔j∈ZaY M l):=λ M=>by
   constructor
   ·intro h j hj;exact h j (by omega)
   ·intro h j hj;rcases yY.1 hj with h1|rfl
    ·exact h j h1
    ·exact⟨λ h=>(hkD h).elim,λ h=>(hnb M h).elim⟩
  exact{
   len:=h.len
   lt:=h.lt
   asc:=h.asc
   below:=λ i hi=>by have:=h.below i hi;omega
   adm:=λ R hR=>by rw[hext];exact h.adm R hR
   some:=h.some
   first:=λ R hR hs=>by
    rcases h.first R hR hs with h1|⟨j,h1,h2⟩
    ·exact .inl ((hext _).2 h1)
    ·exact .inr ⟨j,by omega,h2⟩}
 ·rw[if_neg c];have hv1:a.1<fm.length:=by rw[h.len];exact hin.1
  have hv2:a.2<fm.length:=by rw[h.len];exact hin.2
  have hbw:∀M:List Nat,bwd M a=true↔M.idxOf a.2<M.idxOf a.1:=λ M=>by simp[bwd]
  by_cases c2:ZeB n (cnt l) (ZbU fm a.1 a.2)=ZbC n l
  ·rw[if_pos c2];have hext:∀M:List Nat,(∀j,j<k+1->(j∈D++[k]↔j∈ZaY M l))↔(∀j,j<k->(j∈D↔j∈ZaY M l))/\bwd M a=true:=λ M=>by
    constructor
    ·intro h;refine⟨λ j hj=>?_,(hmem M).1 ((h k (by omega)).1 (by simp))⟩;rw[<-h j (by omega)];have:j≠k:=by omega
     simp[this]
    ·rintro⟨h1,h2⟩ j hj;rcases yY.1 hj with h3|rfl
     ·rw[<-h1 j h3];have:j≠k:=by omega
      simp[this]
     ·exact⟨λ _=>(hmem M).2 h2,λ _=>by simp⟩
   exact{
    len:=by simp[ZbU,h.len]
    lt:=orAt_lt hv1 hin.2 h.lt
    asc:=gE.2 ⟨h.asc,zC _ _,λ x hx y hy=>by rw[uS.1 hy];exact h.below x hx⟩
    below:=λ i hi=>by
     rcases yK.1 hi with h1|h1
     ·have:=h.below i h1;omega
     ·rw[uS.1 h1];omega
    adm:=λ R hR=>by rw[hext,ZkW hv1 h.len hin.2 hR,h.adm R hR,hbw]
    some:=by
     obtain⟨R,h1,h2,h3⟩:=Znj h8 (cnt l) (ZbU fm a.1 a.2) (orAt_lt hv1 hin.2 h.lt) (2^n-1) (by omega) (by have e:ZcS n (cnt l) (ZbU fm a.1 a.2) (2^n-1)=ZeB n (cnt l) (ZbU fm a.1 a.2):=rfl;omega);exact⟨R,Zkn.1 h1,h2,h3.trans c2⟩
    first:=λ R hR hs=>by
     rcases h.first R hR hs with h1|⟨j,h1,h2,h3,h4⟩
     ·by_cases c3:bwd R.reverse a=true
      ·exact .inl ((hext _).2 ⟨h1,c3⟩)
      ·refine .inr ⟨k,by omega,by simp,λ hc=>c3 ((hmem _).1 hc),λ i hi=>?_⟩;rw[<-h1 i hi];have:i≠k:=by omega
       simp[this]
     ·refine .inr ⟨j,by omega,by simp[h2],h3,λ i hi=>?_⟩;rw[<-h4 i hi];have:i≠k:=by omega
      simp[this]}
  ·rw[if_neg c2];have hno:∀R:List Nat,Part n 0 R.reverse->ZeU (fmF fm) R->bkR (cnt l) R=ZbC n l->bwd R.reverse a=false:=by
    intro R hR hA hs;cases hb:bwd R.reverse a
    ·rfl
    ·exfalso;have h1:=(ZkW hv1 h.len hin.2 hR).2 ⟨hA,(hbw _).1 hb⟩;have h2:=Znl h8 (cnt l) (ZbU fm a.1 a.2) R _ (by omega) (Zkn.2 hR) h1;have e:ZcS n (cnt l) (ZbU fm a.1 a.2) (2^n-1)=ZeB n (cnt l) (ZbU fm a.1 a.2):=rfl;obtain⟨R',g1,g2,g3⟩:=Znj h8 (cnt l) (ZbU fm a.1 a.2) (orAt_lt hv1 hin.2 h.lt) (2^n-1) (by omega) (by omega);have:=Zo0 (l:=l) h8 (Zkn.1 g1);omega
   have hnb:∀R:List Nat,Part n 0 R.reverse->(R.reverse.idxOf a.1<R.reverse.idxOf a.2↔¬bwd R.reverse a=true):=λ R hR=>by
    rw[hbw];have:R.reverse.idxOf a.1≠R.reverse.idxOf a.2:=λ h=>c (Zzb (Part.mem hR hin.1) (Part.mem hR hin.2) h)
    omega
   have hext:∀M:List Nat,(∀j,j<k+1->(j∈D↔j∈ZaY M l))↔(∀j,j<k->(j∈D↔j∈ZaY M l))/\¬bwd M a=true:=λ M=>by
    constructor
    ·intro h;exact⟨λ j hj=>h j (by omega),λ hb=>hkD ((h k (by omega)).2 ((hmem M).2 hb))⟩
    ·rintro⟨h1,h2⟩ j hj;rcases yY.1 hj with h3|rfl
     ·exact h1 j h3
     ·exact⟨λ h=>(hkD h).elim,λ h=>(h2 ((hmem M).1 h)).elim⟩
   exact{
    len:=by simp[ZbU,h.len]
    lt:=orAt_lt hv2 hin.1 h.lt
    asc:=h.asc
    below:=λ i hi=>by have:=h.below i hi;omega
    adm:=λ R hR=>by rw[hext,ZkW hv2 h.len hin.1 hR,h.adm R hR,hnb R hR]
    some:=by
     obtain⟨R,h1,h2,h3⟩:=h.some;refine⟨R,h1,(ZkW hv2 h.len hin.1 h1).2 ⟨h2,(hnb R h1).2 ?_⟩,h3⟩;rw[hno R h1 h2 h3];decide
    first:=λ R hR hs=>by
     rcases h.first R hR hs with h1|⟨j,h1,h2⟩
     ·refine .inl ((hext _).2 ⟨h1,?_⟩);rw[hno R hR ((h.adm R hR).2 h1) hs];decide
     ·exact .inr ⟨j,by omega,h2⟩}
theorem dec_all {n:Nat}{l:List NA}(h8:n<=8)(hi:InN n l)(hl:l.length<1048576):∀k,k<=l.length->Dec n l k (ZcH n (cnt l) (ZbC n l) l k).1 (ZcH n (cnt l) (ZbC n l) l k).2
 |0,_=>ZxZ h8 hi hl
 |k+1,hk=>by
  have ha:=uR (show k<l.length by omega);rw[ZcH,ha];exact ZxY h8 hi hl ha (dec_all h8 hi hl k (by omega))
theorem ZzU {n:Nat}{l:List NA}(h8:n<=8)(hi:InN n l)(hl:l.length<1048576):∃M,Part n 0 M/\ZaY M l=Zbk n l:=by
 have h:=dec_all h8 hi hl l.length (uJ _);obtain⟨R,h1,h2,h3⟩:=h.some;refine⟨R.reverse,h1,(Zk7 h.asc (Zk8 _ _) λ j=>?_).symm⟩;have h4:=(h.adm R h1).1 h2;rcases uE j l.length with hj|hj
 ·exact h4 j hj
 ·constructor
  ·intro hc;have:=h.below j hc;omega
  ·intro hc;obtain⟨a,ha,_⟩:=ZlK.1 hc;have:=(uB.1 ha).1;omega
theorem ZzV {n:Nat}{l:List NA}(h8:n<=8)(hi:InN n l)(hl:l.length<1048576):(Zbk n l).length=ZbC n l:=by
 have h:=dec_all h8 hi hl l.length (uJ _);obtain⟨R,h1,h2,h3⟩:=h.some;have h4:=(h.adm R h1).1 h2;rw[<-h3,Zm2 hi h1]
 congr 1
 refine Zk7 h.asc (Zk8 _ _) λ j=>?_
 rcases uE j l.length with hj|hj
 ·exact h4 j hj
 ·constructor
  ·intro hc;have:=h.below j hc;omega
  ·intro hc;obtain⟨a,ha,_⟩:=ZlK.1 hc;have:=(uB.1 ha).1;omega
theorem ZzW {n:Nat}{l:List NA}(h8:n<=8)(hi:InN n l)(hl:l.length<1048576){M:List Nat}(hM:Part n 0 M):Zbu (ZaY M l) (Zbk n l)=false:=by
 have h:=dec_all h8 hi hl l.length (uJ _);have hR:Part n 0 M.reverse.reverse:=by rw[zB];exact hM
 have hlen:=Zm2 hi hR;have hlow:=Zo0 (l:=l) h8 hR;have hll:=ZzV h8 hi hl;rw[zB]at hlen;cases hq:Zbu (ZaY M l) (Zbk n l)with
 |false=>rfl
 |true=>
  have hq':=hq;rw[Zbu]at hq;by_cases c:(ZaY M l).length=(Zbk n l).length
  ·rcases h.first M.reverse hR (by omega)with h1|⟨j,h1,h2,h3,h4⟩
   ·rw[zB]at h1;have:Zbk n l=ZaY M l:=by
     refine Zk7 h.asc (Zk8 _ _) λ j=>?_
     rcases uE j l.length with hj|hj
     ·exact h1 j hj
     ·constructor
      ·intro hc;have:=h.below j hc;omega
      ·intro hc;obtain⟨a,ha,_⟩:=ZlK.1 hc;have:=(uB.1 ha).1;omega
    rw[if_pos c,this,lexLt_irr]at hq;cases hq
   ·rw[zB]at h3 h4;have h5:=Zsn (a:=Zbk n l) (b:=ZaY M l) h.asc (Zk8 _ _) c.symm h2 h3 h4;rw[if_pos c,Zn2 h5]at hq;cases hq
  ·rw[if_neg c]at hq;simp only[uF]at hq;omega
def ZcL (S:List Nat)(a:NA):Bool:= !decide (a.1=a.2)&&(decide (a.1∈S)&&decide (a.2∈S))
def Zdz (l:List NA)(S:List Nat)(v:Nat):Nat:=(l.filter λ a=>ZcL S a&&decide (a.1=v)).length
def Zdy (l:List NA)(S:List Nat)(v:Nat):Nat:=(l.filter λ a=>ZcL S a&&decide (a.2=v)).length
def Zef (n:Nat)(S:List Nat)(p:Nat->Bool):Option Nat:=(List.range n).find? λ v=>decide (v∈S)&&p v
def ZdL (acc:Option (List Nat))(s:List Nat):Option (List Nat):=match acc with
 |none=>some s
 |some b=>if Zbu s b then some s else some b
mutual
def Zb2 (n:Nat)(l:List NA):Nat->List Nat->List Nat
 |0,m=>ZaY m l
 |f+1,m=>(ZaW n l f m n).getD []
def ZaW (n:Nat)(l:List NA)(f:Nat)(m:List Nat):Nat->Option (List Nat)
 |0=>none
 |k+1=>if k∈m then ZaW n l f m k else ZdL (ZaW n l f m k) (Zb2 n l f (m++[k]))
end
structure Best (n:Nat)(l:List NA)(m s:List Nat):Prop where
 is:∃t,Part n 0 (m++t)/\s=ZaY (m++t) l
 least:∀t,Part n 0 (m++t)->Zbu (ZaY (m++t) l) s=false
theorem ZzZ (a:List Nat):Zbu a a=false:=by rw[Zbu,if_pos rfl];exact lexLt_irr a
theorem Zsk {a b c:List Nat}(h1:Zbu a b=false)(h2:Zbu b c=false):Zbu a c=false:=by
 cases h:Zbu a c
 ·rfl
 ·exfalso;cases h3:Zbu b a
  ·have:=Zsj h1 h3;subst this;rw[h2]at h;cases h
  ·have:=Zz0 h3 h;rw[h2]at this;cases this
theorem ZuT (n:Nat)(l:List NA):∀(f:Nat) (m:List Nat),Part n f m->Best n l m (Zb2 n l f m):=by
 intro f
 induction f with
 |zero=>
  intro m h;rw[Zb2];refine⟨⟨[],by rw[yT];exact h,by rw[yT]⟩,λ t ht=>?_⟩;have h1:=ht.len;have h2:=h.len;rw[uG]at h1;have:t=[]:=qI (by omega);subst this;rw[yT];exact ZzZ _
 |succ f ih=>
  intro m h
  have key:∀k,k<=n->match ZaW n l f m k with
    |none=>∀u,u<k->u∈m
    |some s=>(∃t,Part n 0 (m++t)/\s=ZaY (m++t) l)/\∀u t,u<k->Part n 0 (m++u::t)->Zbu (ZaY (m++u::t) l) s=false:=by
   intro k
   induction k with
   |zero=>intro _;rw[ZaW];intro u hu;omega
   |succ k ihk=>
    intro hk;have ihk:=ihk (by omega);rw[ZaW];by_cases c:k∈m
    ·rw[if_pos c];revert ihk;rcases ZaW n l f m k with _|s<;>intro ihk
     ·intro u hu;rcases yY.1 hu with h1|rfl
      ·exact ihk u h1
      ·exact c
     ·refine⟨ihk.1,λ u t hu ht=>?_⟩;rcases yY.1 hu with h1|rfl
      ·exact ihk.2 u t h1 ht
      ·exfalso;have:=(kL.1 ht.nd).2.2 u c u (by simp);exact this rfl
    ·rw[if_neg c];have hb:=ih (m++[k]) (h.snoc (by omega) c);have e:∀t,m++[k]++t=m++k::t:=λ t=>by simp
     obtain⟨⟨t0,h1,h2⟩,h3⟩:=hb;rw[e]at h1 h2;have h3':∀t,Part n 0 (m++k::t)->Zbu (ZaY (m++k::t) l) (Zb2 n l f (m++[k]))=false:=λ t ht=>by rw[<-e];exact h3 t (by rw[e];exact ht)
     revert ihk;rcases ZaW n l f m k with _|s<;>intro ihk
     ·refine⟨⟨_,h1,h2⟩,λ u t hu ht=>?_⟩;rcases yY.1 hu with h4|rfl
      ·exfalso;have:=(kL.1 ht.nd).2.2 u (ihk u h4) u (by simp);exact this rfl
      ·exact h3' t ht
     ·simp only[ZdL];cases hl:Zbu (Zb2 n l f (m++[k])) s
      ·rw[if_neg kA];refine⟨ihk.1,λ u t hu ht=>?_⟩;rcases yY.1 hu with h4|rfl
       ·exact ihk.2 u t h4 ht
       ·exact Zsk (h3' t ht) hl
      ·rw[if_pos rfl];refine⟨⟨_,h1,h2⟩,λ u t hu ht=>?_⟩;rcases yY.1 hu with h4|rfl
       ·exact Zsk (ihk.2 u t h4 ht) (ZzY hl)
       ·exact h3' t ht
  have hk:=key n (uJ n);rw[Zb2];revert hk;rcases ZaW n l f m n with _|s<;>intro hk
  ·exfalso;have:=nd_le (n:=m.length) (G:=m) h.nd;have hm:n<=m.length:=by
    have:∀{a b:List Nat},a.Nodup->(∀x,x∈a->x∈b)->a.length<=b.length:=by
     intro a
     induction a with
     |nil=>intro b _ _;simp
     |cons x a ih=>
      intro b hn hs;have hn':=yW.1 hn;have hx:=hs x (by simp);have:=ih (b:=b.erase x) hn'.2 λ y hy=>(zX (λ e=>hn'.1 (by rw[<-e];exact hy))).2 (hs y (uO _ hy))
      rw[jV hx]at this;have:=zH hx;simp;omega
    have:=this (a:=List.range n) (b:=m) kT λ v hv=>hk v (uZ.1 hv)
    simpa using this
   have:=h.len;omega
  ·refine⟨hk.1,λ t ht=>?_⟩;cases t with
   |nil=>
    have h1:=ht.len;have h2:=h.len;rw[yT]at h1;omega
   |cons u t=>exact hk.2 u t (ht.lt u (by simp)) ht
theorem srch_least {n:Nat}{l:List NA}(h8:n<=8)(hi:InN n l)(hl:l.length<1048576):Zb2 n l n []=Zbk n l:=by
 have hP:Part n n []:=⟨zA,by simp,by simp⟩;obtain⟨⟨t,h1,h2⟩,h3⟩:=ZuT n l n [] hP;obtain⟨M,g1,g2⟩:=ZzU h8 hi hl;refine Zsj ?_ ?_
 ·rw[h2];exact ZzW h8 hi hl h1
 ·rw[<-g2];exact h3 M g1
theorem srch_len (n:Nat)(l:List NA){f:Nat}{m:List Nat}(h:Part n f m):(Zb2 n l f m).length<=l.length:=by
 obtain⟨⟨t,h1,h2⟩,_⟩:=ZuT n l f m h;rw[h2,ZaY];exact gP (gN _ _) (by simp)
end Go.Cy
namespace Go.PS
open Go
theorem Zpy {n:Nat}(h:n<9223372036854775808):IntKind.i64.wrap (n:Int)=n:=by
 rw[IntKind.wrap_i64];omega
theorem ZiH (a:Nat):BitVec.ofInt 64 (a:Int)=BitVec.ofNat 64 a:=BitVec.ofInt_natCast _ _
theorem ZiI {a:Nat}(h:a<9223372036854775808):(BitVec.ofNat 64 a).toNat=a:=by
 rw[BitVec.toNat_ofNat,Dc];omega
theorem Zw6 {a b:Nat}(ha:a<9223372036854775808)(hb:b<9223372036854775808):IntKind.i64.wrap ((BitVec.ofInt 64 (a:Int)&&&BitVec.ofInt 64 (b:Int)).toNat:Int)=((a&&&b:Nat):Int):=by
 rw[ZiH,ZiH,BitVec.toNat_and,ZiI ha,ZiI hb];exact Zpy (Nat.lt_of_le_of_lt Nat.and_le_left ha)
theorem ZqA {a b:Nat}(ha:a<9223372036854775808)(hb:b<9223372036854775808):IntKind.i64.wrap ((BitVec.ofInt 64 (a:Int)|||BitVec.ofInt 64 (b:Int)).toNat:Int)=((a|||b:Nat):Int):=by
 rw[ZiH,ZiH,BitVec.toNat_or,ZiI ha,ZiI hb];exact Zpy (Nat.or_lt_two_pow (n:=63) ha hb)
def Zfo (a b:Nat):Nat:=a^^^(a&&&b)
theorem Zk2 (a b i:Nat):(Zfo a b).testBit i=(a.testBit i&& !b.testBit i):=by
 simp only[Zfo,Nat.testBit_xor,Nat.testBit_and];cases a.testBit i<;>cases b.testBit i<;>rfl
theorem Zqz {a b:Nat}(ha:a<9223372036854775808)(hb:b<9223372036854775808):IntKind.i64.wrap ((BitVec.ofInt 64 (a:Int)&&&~~~BitVec.ofInt 64 (b:Int)).toNat:Int)=((Zfo a b:Nat):Int):=by
 have e:(BitVec.ofNat 64 a&&&~~~BitVec.ofNat 64 b).toNat=Zfo a b:=by
  refine Az λ i=>?_
  rw[Zk2,BitVec.testBit_toNat,BitVec.getLsbD_and,BitVec.getLsbD_not];rw[<-BitVec.testBit_toNat,ZiI ha,<-BitVec.testBit_toNat,ZiI hb];rcases uE i 64 with h|h
  ·simp[h]
  ·have:a.testBit i=false:=zI (gG ha (gP (by decide:9223372036854775808<=2^64) (kD (n:=2) (by decide) h)));simp[this]
 rw[ZiH,ZiH,e];refine Zpy (Nat.lt_of_le_of_lt ?_ ha);refine Nat.le_of_not_lt λ h=>?_
 have:Zfo a b<=a:=by
  have h1:=Nat.and_le_left (n:=a) (m:=Zfo a b);have h2:a&&&Zfo a b=Zfo a b:=by
   refine Az λ i=>?_
   rw[Nat.testBit_and,Zk2];cases a.testBit i<;>rfl
  rw[h2]at h1;exact h1
 omega
theorem Zwm {a b n:Nat}(ha:a<2^n):Zfo a b=0↔Go.Cy.inB n a b=true:=by
 rw[Go.Cy.inB_iff];constructor
 ·intro h u _ hu;have:=Zk2 a b u;rw[h,Cb,hu]at this;simpa using this.symm
 ·intro h;refine Az λ u=>?_
  rw[Zk2,Cb];rcases uE u n with hu|hu
  ·cases hb:a.testBit u
   ·rfl
   ·rw[h u hu hb];rfl
  ·rw[zI (gG ha (kD (by decide) hu))];rfl
theorem Zwl :∀s:Nat,s<256->∀v:Nat,v<8->s.testBit v=true->Zfo s (2^v)=s-2^v:=by decide+kernel
theorem ZDL :∀s:Nat,s<256->∀v:Nat,v<8->IntKind.i64.wrap ((BitVec.ofInt 64 ((s:Int).fdiv (2^min v 64))&&&1#64).toNat:Int)=if s.testBit v then 1 else 0:=by decide+kernel
theorem Zmc :∀n:Nat,n<=8->IntKind.i64.wrap (1*2^min n 64)=((2^n:Nat):Int):=by decide+kernel
end Go.PS
namespace Go.Hp
def at0 (l:List Nat)(i:Nat):Nat:=(l[i]?).getD 0
end Go.Hp
