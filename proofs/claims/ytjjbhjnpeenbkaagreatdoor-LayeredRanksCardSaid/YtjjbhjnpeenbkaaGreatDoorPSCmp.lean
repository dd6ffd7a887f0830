/- Lists of places, compared by their means; the order that stable sorting makes of them (no program in sight). -/
import Derived.Test.YtjjbhjnpeenbkaaGreatDoorPSBridge
import Derived.Test.YtjjbhjnpeenbkaaGreatDoorPSEnd
set_option linter.unusedSimpArgs false
set_option linter.unusedVariables false
set_option maxHeartbeats 16000000
namespace Go.Stb
def Zj0 (l:List Int):Bool:=decide (l.length<=4096)&&l.all λ x=>decide (0<=x/\x<=1048576)
def ZaG (l:List Int):Nat:=if Zj0 l then l.length else 0
def Zby (l:List Int):Int:=if Zj0 l then l.sum else 0
def sg (a b:Int):Int:=if a<b then -1 else if b<a then 1 else 0
def Zce (a b:List Int):Int:=
 if ZaG a=0\/ZaG b=0 then sg (min (ZaG a) 1:Nat) (min (ZaG b) 1:Nat)else sg (Zby a*ZaG b) (Zby b*ZaG a)
theorem ZtB (a b:Int):sg a b=-sg b a:=by
 unfold sg;split<;>split<;>omega
theorem ZmL (a b:List Int):Zce a b=-Zce b a:=by
 unfold Zce;by_cases h:ZaG a=0\/ZaG b=0
 ·rw[if_pos h,if_pos h.symm,ZtB]
 ·rw[if_neg h,if_neg (λ c=>h c.symm),ZtB]
theorem ZCq {a b:Int}:sg a b<0↔a<b:=by unfold sg;split<;>(try split)<;>omega
theorem ZmM {a b:List Int}:Zce a b<0↔(ZaG a=0/\0<ZaG b)\/(0<ZaG a/\0<ZaG b/\Zby a*ZaG b<Zby b*ZaG a):=by
 unfold Zce;split<;>rw[ZCq]<;>omega
theorem Zp5 {a b:List Int}(h:Zce a b<0):¬Zce b a<0:=by have:=ZmL a b;omega
theorem Zzk {x y:Int}{n:Nat}(hn:0<n)(h:x*n<=y*n):x<=y:=Int.le_of_mul_le_mul_right h (by omega)
theorem ZmN {a c:List Int}(b:List Int)(h:Zce a c<0):Zce a b<0\/Zce b c<0:=by
 rw[ZmM]at h;rw[ZmM,ZmM];rcases h with⟨h1,h2⟩|⟨h1,h2,h3⟩
 ·rcases qU (ZaG b)with c1|c1
  ·exact .inr (.inl ⟨c1,h2⟩)
  ·exact .inl (.inl ⟨h1,c1⟩)
 ·rcases qU (ZaG b)with c1|c1
  ·exact .inr (.inl ⟨c1,h2⟩)
  ·by_cases c2:Zby a*ZaG b<Zby b*ZaG a
   ·exact .inl (.inr ⟨h1,c1,c2⟩)
   ·by_cases c3:Zby b*ZaG c<Zby c*ZaG b
    ·exact .inr (.inr ⟨c1,h2,c3⟩)
    ·exfalso;have e1:Zby b*ZaG a*ZaG c<=Zby a*ZaG b*ZaG c:=jX (by omega) (by omega);have e2:Zby c*ZaG b*ZaG a<=Zby b*ZaG c*ZaG a:=jX (by omega) (by omega);have e3:Zby c*ZaG a*ZaG b<=Zby a*ZaG c*ZaG b:=by
      have s1:Zby c*ZaG b*ZaG a=Zby c*ZaG a*ZaG b:=by rw[Bo,Da (ZaG b:Int),<-Bo]
      have s2:Zby b*ZaG c*ZaG a=Zby b*ZaG a*ZaG c:=by rw[Bo,Da (ZaG c:Int),<-Bo]
      have s3:Zby a*ZaG b*ZaG c=Zby a*ZaG c*ZaG b:=by rw[Bo,Da (ZaG b:Int),<-Bo]
      omega
     have:=Zzk c1 e3;omega
def ZgB (p:Nat->List Int)(j k:Nat):Prop:=Zce (p j) (p k)<0\/(¬Zce (p k) (p j)<0/\j<k)
theorem Zsk (p:Nat->List Int):Ord (ZgB p) where
 asymm:=λ a b h1 h2=>by
  rcases h1 with h1|⟨h1,h3⟩<;>rcases h2 with h2|⟨h2,h4⟩
  ·exact Zp5 h1 h2
  ·exact h2 h1
  ·exact h1 h2
  ·omega
 trans:=λ a b c h1 h2=>by
  rcases h1 with h1|⟨h1,h3⟩
  ·rcases ZmN (p c) h1 with h|h
   ·exact .inl h
   ·rcases h2 with h2|⟨h2,h4⟩
    ·exact absurd h (Zp5 h2)
    ·exact absurd h h2
  ·rcases h2 with h2|⟨h2,h4⟩
   ·rcases ZmN (p a) h2 with h|h
    ·exact absurd h h1
    ·exact .inl h
   ·refine .inr ⟨λ h=>?_,by omega⟩;rcases ZmN (p b) h with h|h
    ·exact h2 h
    ·exact h1 h
 total:=λ a b h=>by
  by_cases h1:Zce (p a) (p b)<0
  ·exact .inl (.inl h1)
  ·by_cases h2:Zce (p b) (p a)<0
   ·exact .inr (.inl h2)
   ·rcases uC a b with h3|h3
    ·exact .inl (.inr ⟨h2,h3⟩)
    ·exact .inr (.inr ⟨h1,by omega⟩)
theorem Zz2 {p:Nat->List Int}{j k:Nat}(h:j<k):Zce (p k) (p j)<0↔ZgB p k j:=
 ⟨λ c=> .inl c,λ c=>by
  rcases c with c|⟨_,c⟩
  ·exact c
  ·omega⟩
theorem Zrh {l:List Int}{c:Nat}(h:∀x,x∈l->0<=x/\x<=c):0<=l.sum/\l.sum<=((l.length*c:Nat):Int):=by
 induction l with
 |nil=>simp
 |cons x l ih=>
  have h1:=ih λ y hy=>h y (uN _ hy)
  have h2:=h x (by simp);rw[jQ,uX,qH];omega
theorem Zwx (l:List Int):ZaG l<=4096:=by
 unfold ZaG Zj0;split
 ·rename_i h;simp only[uM,uF]at h;exact h.1
 ·omega
theorem ZDx (l:List Int):0<=Zby l/\Zby l<=4294967296:=by
 unfold Zby;split
 ·rename_i h;simp only[Zj0,uM,uF,uZ]at h;have h1:=Zrh (c:=1048576) h.2;have h2:l.length*1048576<=4096*1048576:=yP _ h.1;omega
 ·omega
theorem ZsI (a b:List Int):0<=Zby a*ZaG b/\Zby a*ZaG b<=17592186044416:=by
 have h1:=ZDx a;have h2:=Zwx b;constructor
 ·exact Dg h1.1 (by omega)
 ·have h3:Zby a*ZaG b<=4294967296*(ZaG b:Int):=jX h1.2 (by omega);omega
variable {α:Type}{R:α->α->Prop}
theorem Zyn (h:Ord R){l:List α}{x z:α}(hs:l.Pairwise R)(hz:l.getLast?=some z)(hx:x∈l):x=z\/R x z:=by
 obtain⟨l',rfl⟩:∃l',l=l'++[z]:=by
  rcases List.eq_nil_or_concat l with rfl|⟨l',w,rfl⟩
  ·simp at hz
  ·refine⟨l',?_⟩;rw[List.concat_eq_append]at hz|-;simp at hz;rw[hz]
 rcases yO.1 hx with hx|hx
 ·exact .inr ((gH.1 hs).2.2 x hx z (by simp))
 ·exact .inl (uT.1 hx)
theorem ZxS (h:Ord R){l:List α}{x z:α}(hs:l.Pairwise R)(hz:l.head?=some z)(hx:x∈l):x=z\/R z x:=by
 cases l with
 |nil=>cases hx
 |cons w l=>
  have:w=z:=by simpa using hz
  subst this;rcases yD.1 hx with rfl|hx
  ·exact .inl rfl
  ·exact .inr ((zA.1 hs).1 x hx)
theorem Zrl (h:Ord R){u v:List α}(su:u.Pairwise R)(sv:v.Pairwise R)(huv:∀x,u.getLast?=some x->∀y,v.head?=some y->R x y):(u++v).Pairwise R:=by
 refine gH.2 ⟨su,sv,λ x hx y hy=>?_⟩;obtain⟨z,hz⟩:∃z,u.getLast?=some z:=by
  cases hu:u.getLast? with
  |none=>rw[List.getLast?_eq_none_iff]at hu;subst hu;cases hx
  |some z=>exact⟨z,rfl⟩
 obtain⟨w,hw⟩:∃w,v.head?=some w:=by
  cases v with
  |nil=>cases hy
  |cons w v=>exact⟨w,rfl⟩
 have hzw:=huv z hz w hw;have hxw:R x w:=by
  rcases Zyn h su hz hx with rfl|h3
  ·exact hzw
  ·exact h.trans x z w h3 hzw
 rcases ZxS h sv hw hy with rfl|h4
 ·exact hxw
 ·exact h.trans x w y hxw h4
theorem Zyo {l:List α}{k:Nat}{x:α}(hk:k<=l.length)(h:(l.take k).getLast?=some x):0<k/\l[k-1]? =some x:=by
 rcases qU k with rfl|h0
 ·simp at h
 ·refine⟨h0,?_⟩;rw[List.getLast?_eq_getElem?,yF,jM hk,qF,if_pos (by omega)]at h;exact h
theorem ZxR {l:List α}{k:Nat}{x:α}(h:(l.drop k).head?=some x):l[k]? =some x:=by
 rw[List.head?_drop]at h;exact h
theorem ZAB (h:Ord R){A:List α}{y:α}{i:Nat}(hi:i<=A.length)(hA:A.Pairwise R)(h1:∀x,0<i->A[i-1]? =some x->R x y)(h2:∀x,A[i]? =some x->R y x):
  (A.take i++y::A.drop i).Pairwise R:=by
 have sp:=gI i A;rw[<-sp]at hA;obtain⟨s1,s2,_⟩:=gH.1 hA;have e:A.take i++y::A.drop i=(A.take i++[y])++A.drop i:=by simp
 rw[e];refine Zrl h (Zrl h s1 (zJ _ _) λ x hx z hz=>?_) s2 λ x hx z hz=>?_
 ·obtain⟨h3,h4⟩:=Zyo hi hx;have:y=z:=by simpa using hz
  subst this;exact h1 x h3 h4
 ·have:y=x:=by simpa using hx
  subst this;exact h2 z (ZxR hz)
end Go.Stb
namespace Go.Cy
open Go.Bd (Part)
abbrev NA :=Nat×Nat
def Acy (l:List NA):Prop:=∃r:Nat->Nat,∀a,a∈l->a.1≠a.2->r a.1<r a.2
def InN (n:Nat)(l:List NA):Prop:=∀a,a∈l->a.1<n/\a.2<n
def Src (l:List NA)(G:List Nat)(v:Nat):Prop:=∀a,a∈l->a.2=v->a.1≠v->a.1∈G
def ZfE (l:List NA)(G:List Nat):Prop:=∃r:Nat->Nat,(∀v,v∈G->r v<G.length)/\∀a,a∈l->a.1≠a.2->a.2∈G->a.1∈G/\r a.1<r a.2
theorem ZfE.cons {l:List NA}{G:List Nat}{v:Nat}(h:ZfE l G)(hv:v∉G)(hs:Src l G v):ZfE l (v::G):=by
 obtain⟨r,h1,h2⟩:=h;refine⟨λ u=>if u=v then G.length else r u,?_,?_⟩
 ·intro u hu;dsimp only;by_cases c:u=v
  ·simp[c]
  ·rw[if_neg c];have:=h1 u (by simpa[c]using hu);simp;omega
 ·intro a ha hn h3;dsimp only;by_cases c:a.2=v
  ·have h4:=hs a ha c (by rw[<-c];exact hn);have h5:a.1≠v:=λ h=>hv (h▸h4)
   refine⟨uN _ h4,?_⟩;rw[if_neg h5,if_pos c];exact h1 _ h4
  ·have h4:=h2 a ha hn (by simpa[c]using h3);have h5:a.1≠v:=λ h=>hv (h▸h4.1)
   refine⟨uN _ h4.1,?_⟩;rw[if_neg h5,if_neg c];exact h4.2
theorem ZfE.all {n:Nat}{l:List NA}{G:List Nat}(h:ZfE l G)(hi:InN n l)(hg:∀v,v<n->v∈G):Acy l:=by
 obtain⟨r,_,h2⟩:=h;exact⟨r,λ a ha hn=>(h2 a ha hn (hg _ (hi a ha).2)).2⟩
theorem nd_le :∀{n:Nat} {G:List Nat},G.Nodup->(∀v,v∈G->v<n)->G.length<=n
 |0,[],_,_=>by simp
 |0,v::_,_,h=>by have:=h v (by simp);omega
 |n+1,G,hn,h=>by
  have:= @nd_le n (G.erase n) (hn.erase _) λ v hv=>by
   have h1:=(List.Nodup.mem_erase_iff hn).1 hv;have:=h v h1.2;omega
  have:=List.length_erase_le (a:=n) (l:=G);have:G.length<=(G.erase n).length+1:=by rw[List.length_erase];split<;>omega
  omega
theorem nd_all :∀{n:Nat} {G:List Nat},G.Nodup->(∀v,v∈G->v<n)->n<=G.length->∀v,v<n->v∈G:=by
 intro n G hn h hl v hv;refine Bh λ hc=>?_
 have:= @nd_le n (v::G) (yV.2 ⟨hc,hn⟩) λ u hu=>by
  rcases yD.1 hu with rfl|hu
  ·exact hv
  ·exact h u hu
 simp at this;omega
def Zjg (n:Nat)(l:List NA)(G:List Nat):Prop:=∀v,v<n->v∉G->¬Src l G v
theorem stuck_all {n:Nat}{l:List NA}{G:List Nat}(hi:InN n l)(ha:Acy l)(hs:Zjg n l G):∀v,v<n->v∈G:=by
 obtain⟨r,hr⟩:=ha;have:∀(k v:Nat),r v<k->v<n->v∈G:=by
  intro k
  induction k with
  |zero=>intro v h;omega
  |succ k ih=>
   intro v hk hv;refine Bh λ hc=>hs v hv hc ?_
   intro a ha h2 h1;have h3:=hr a ha (by rw[h2];exact h1);rw[h2]at h3;exact ih a.1 (by omega) (hi a ha).1
 exact λ v hv=>this (r v+1) v (by omega) hv
def Za7 (l:List NA)(set:List Nat):List NA:=l.mapIdx λ i a=>if i∈set then(a.2,a.1)else a
theorem flipN_get {l:List NA}{set:List Nat}{k:Nat}{a:NA}(h:l[k]? =some a):(Za7 l set)[k]? =some (if k∈set then(a.2,a.1)else a):=by
 simp[Za7,List.getElem?_mapIdx,h]
theorem flipN_len (l:List NA)(set:List Nat):(Za7 l set).length=l.length:=by simp[Za7]
theorem flipN_mem {l:List NA}{set:List Nat}{b:NA}(h:b∈Za7 l set):∃k a,l[k]? =some a/\b=if k∈set then(a.2,a.1)else a:=by
 obtain⟨k,hk⟩:=gN.1 h;have hlt:k<l.length:=by have:=(uB.1 hk).1;rw[flipN_len]at this;exact this
 refine⟨k,l[k],uQ hlt,?_⟩;have:=flipN_get (set:=set) (uQ hlt);rw[hk]at this;exact Option.some.inj this
theorem flipN_nil (l:List NA):Za7 l []=l:=by
 refine yS λ u=>?_
 rcases uC u l.length with h|h
 ·rw[flipN_get (uQ h)];simp[h]
 ·rw[uL (by rw[flipN_len];exact h),uL h]
abbrev Asc (l:List Nat):Prop:=l.Pairwise (·<·)
theorem ZkO :∀{a b:List Nat},Asc a->Asc b->(∀x,x∈a↔x∈b)->a=b
 |[],[],_,_,_=>rfl
 |[],y::b,_,_,h=>by have:=(h y).2 (by simp);simp at this
 |x::a,[],_,_,h=>by have:=(h x).1 (by simp);simp at this
 |x::a,y::b,ha,hb,h=>by
  rw[Asc,zA]at ha hb;have e:x=y:=by
   have h1:=(h x).1 (by simp);have h2:=(h y).2 (by simp);rcases yD.1 h1 with h1|h1
   ·exact h1
   ·rcases yD.1 h2 with h2|h2
    ·exact h2.symm
    ·have:=hb.1 _ h1;have:=ha.1 _ h2;omega
  subst e;rw[ZkO ha.2 hb.2 λ z=>?_];constructor
  ·intro hz;have:=ha.1 _ hz;rcases yD.1 ((h z).1 (uN _ hz))with rfl|h3
   ·omega
   ·exact h3
  ·intro hz;have:=hb.1 _ hz;rcases yD.1 ((h z).2 (uN _ hz))with rfl|h3
   ·omega
   ·exact h3
theorem ZkP (p:Nat->Bool)(m:Nat):Asc ((List.range m).filter p):=Ax _ kU
def Zfc (l:List NA)(set:List Nat):Prop:=Asc set/\∀i,i∈set->∃a,l[i]? =some a/\a.1≠a.2
def bwd (M:List Nat)(a:NA):Bool:=decide (M.idxOf a.2<M.idxOf a.1)
def Zgj (M:List Nat)(l:List NA)(i:Nat):Bool:=match l[i]? with
 |some a=>bwd M a
 |none=>false
def ZaZ (M:List Nat)(l:List NA):List Nat:=(List.range l.length).filter (Zgj M l)
theorem Zlm {M:List Nat}{l:List NA}{i:Nat}:i∈ZaZ M l↔∃a,l[i]? =some a/\bwd M a=true:=by
 simp only[ZaZ,Am,yA,Zgj];constructor
 ·rintro⟨h1,h2⟩;rw[uQ h1]at h2|-;exact⟨_,rfl,h2⟩
 ·rintro⟨a,h1,h2⟩;refine⟨(uB.1 h1).1,?_⟩;rw[h1];exact h2
theorem Zv1 {M:List Nat}{a:NA}(h:bwd M a=true):a.1≠a.2:=by
 intro e;simp only[bwd,uF,e]at h;omega
theorem ZxW {M:List Nat}{u v:Nat}(hu:u∈M)(hv:v∈M)(h:M.idxOf u=M.idxOf v):u=v:=by
 have h1:=zT (gV hu);have h2:=zT (gV hv);simp only[h]at h1;exact h1.symm.trans h2
theorem Part.mem {n:Nat}{M:List Nat}(h:Part n 0 M){v:Nat}(hv:v<n):v∈M:=nd_all h.nd h.lt (by have:=h.len;omega) v hv
def ZbP :List Nat->List Nat->Bool
 |x::a,y::b=>if x=y then ZbP a b else decide (x<y)
 |[],_=>false
 |_::_,[]=>false
def ZbB (a b:List Nat):Bool:=if a.length=b.length then ZbP a b else decide (a.length<b.length)
theorem lexLt_irr :∀a,ZbP a a=false
 |[]=>rfl
 |x::a=>by simp[ZbP,lexLt_irr a]
theorem ZrB :∀{a b:List Nat},a.length=b.length->ZbP a b=false->ZbP b a=false->a=b
 |[],[],_,_,_=>rfl
 |[],_::_,h,_,_=>by simp at h
 |_::_,[],h,_,_=>by simp at h
 |x::a,y::b,h,h1,h2=>by
  simp only[ZbP]at h1 h2;by_cases c:x=y
  ·subst c;simp only[if_true]at h1 h2;rw[ZrB (by simpa using h) h1 h2]
  ·rw[if_neg c]at h1;rw[if_neg (Ne.symm c)]at h2;simp at h1 h2;omega
theorem Zrz {a b:List Nat}(h1:ZbB a b=false)(h2:ZbB b a=false):a=b:=by
 simp only[ZbB]at h1 h2;by_cases c:a.length=b.length
 ·rw[if_pos c]at h1;rw[if_pos c.symm]at h2;exact ZrB c h1 h2
 ·rw[if_neg c]at h1;rw[if_neg (Ne.symm c)]at h2;simp at h1 h2;omega
theorem Zny :∀{a b:List Nat},ZbP a b=true->ZbP b a=false
 |[],b,h=>by cases b<;>simp[ZbP]at h
 |_::_,[],h=>by simp[ZbP]at h
 |x::a,y::b,h=>by
  simp only[ZbP]at h|-;by_cases c:x=y
  ·subst c;simp only[if_true]at h|-;exact Zny h
  ·rw[if_neg c]at h;rw[if_neg (Ne.symm c)];simp at h|-;omega
theorem ZyM {a b:List Nat}(h:ZbB a b=true):ZbB b a=false:=by
 simp only[ZbB]at h|-;by_cases c:a.length=b.length
 ·rw[if_pos c]at h;rw[if_pos c.symm];exact Zny h
 ·rw[if_neg c]at h;rw[if_neg (Ne.symm c)];simp at h|-;omega
theorem ZrC :∀{a b c:List Nat},ZbP a b=true->ZbP b c=true->ZbP a c=true
 |[],b,_,h,_=>by cases b<;>simp[ZbP]at h
 |_::_,[],_,h,_=>by simp[ZbP]at h
 |_::_,_::_,[],_,h=>by simp[ZbP]at h
 |x::a,y::b,z::c,h1,h2=>by
  simp only[ZbP]at h1 h2|-;by_cases e1:x=y
  ·subst e1;rw[if_pos rfl]at h1;by_cases e2:x=z
   ·subst e2;rw[if_pos rfl]at h2|-;exact ZrC h1 h2
   ·rw[if_neg e2]at h2|-;exact h2
  ·rw[if_neg e1]at h1;by_cases e2:y=z
   ·subst e2;rw[if_neg e1];exact h1
   ·rw[if_neg e2]at h2;simp at h1 h2;rw[if_neg (by omega)];simp;omega
theorem ZyO {a b c:List Nat}(h1:ZbB a b=true)(h2:ZbB b c=true):ZbB a c=true:=by
 simp only[ZbB]at*;by_cases e1:a.length=b.length
 ·rw[if_pos e1]at h1;by_cases e2:b.length=c.length
  ·rw[if_pos e2]at h2;rw[if_pos (e1.trans e2)];exact ZrC h1 h2
  ·rw[if_neg e2]at h2;rw[if_neg (by omega)];simp at h2|-;omega
 ·rw[if_neg e1]at h1;by_cases e2:b.length=c.length
  ·rw[if_neg (by omega)];simp at h1|-;omega
  ·rw[if_neg e2]at h2;simp at h1 h2;rw[if_neg (by omega)];simp;omega
theorem ZrD :∀{a b:List Nat} {j:Nat},Asc a->Asc b->a.length=b.length->j∈a->j∉b->(∀i,i<j->(i∈a↔i∈b))->ZbP a b=true
 |[],_,_,_,_,_,h,_,_=>by simp at h
 |_::_,[],_,_,_,h,_,_,_=>by simp at h
 |x::a,y::b,j,ha,hb,hl,h1,h2,h3=>by
  rw[Asc,zA]at ha hb;simp only[ZbP];by_cases c:x=y
  ·subst c;rw[if_pos rfl];rcases yD.1 h1 with rfl|h1
   ·exact(h2 (by simp)).elim
   ·refine ZrD ha.2 hb.2 (by simpa using hl) h1 (λ h=>h2 (uN _ h)) λ i hi=>?_
    have h4:=h3 i hi;constructor
    ·intro h5;have:=ha.1 _ h5;rcases yD.1 (h4.1 (uN _ h5))with rfl|h6
     ·omega
     ·exact h6
    ·intro h5;have:=hb.1 _ h5;rcases yD.1 (h4.2 (uN _ h5))with rfl|h6
     ·omega
     ·exact h6
  ·rw[if_neg c];refine yB (Bh λ h=>?_);have hy:y<x:=by omega
   have hx:x<=j:=by
    rcases yD.1 h1 with rfl|h1
    ·exact uI _
    ·have:=ha.1 _ h1;omega
   rcases yD.1 ((h3 y (by omega)).2 (by simp))with e|h4
   ·omega
   ·have:=ha.1 _ h4;omega
theorem Zsv {a b:List Nat}(h:a.Perm b):a.sum=b.sum:=by
 induction h with
 |nil=>rfl
 |cons x _ ih=>simp[ih]
 |swap x y l=>simp;omega
 |trans _ _ h1 h2=>exact h1.trans h2
theorem Zlt {α:Type}{l:List α}:l.reverse.Nodup↔l.Nodup:=by
 simp only[List.Nodup,List.pairwise_reverse,ne_comm]
def bkR (c:Nat->Nat->Nat):List Nat->Nat
 |[]=>0
 |v::P=>bkR c P+(P.map (c v)).sum
def ZeI (F:Nat->Nat->Bool):List Nat->Prop
 |[]=>True
 |v::P=>ZeI F P/\∀u,F v u=true->u∈P
def bits (n s:Nat):List Nat:=(List.range n).filter λ u=>s.testBit u
theorem mem_bits {n s u:Nat}:u∈bits n s↔u<n/\s.testBit u=true:=by simp[bits]
theorem clr :∀s,s<256->∀v,v<8->s.testBit v=true->s-2^v<s/\∀u,u<8->(s-2^v).testBit u=(s.testBit u&& !decide (u=v)):=by decide+kernel
def inB (n a b:Nat):Bool:=(List.range n).all λ u=> !a.testBit u||b.testBit u
theorem inB_iff {n a b:Nat}:inB n a b=true↔∀u,u<n->a.testBit u=true->b.testBit u=true:=by
 simp only[inB,uZ,yA,qZ,yI];constructor
 ·intro h u hu ha;rcases h u hu with h|h
  ·rw[h]at ha;cases ha
  ·exact h
 ·intro h u hu;cases ha:a.testBit u
  ·exact .inl rfl
  ·exact .inr (h u hu ha)
def ZeW (p:Nat->Bool)(g:Nat->Nat)(L:List Nat)(m:Nat):Nat:=L.foldl (λ acc v=>if p v then min acc (g v)else acc) m
theorem foldMin_le {p:Nat->Bool}{g:Nat->Nat}:∀{L:List Nat} {m:Nat},ZeW p g L m<=m/\∀v,v∈L->p v=true->ZeW p g L m<=g v
 |[],m=>⟨uI _,by simp⟩
 |w::L,m=>by
  have ih:= @foldMin_le p g L (if p w then min m (g w)else m);have e:ZeW p g (w::L) m=ZeW p g L (if p w then min m (g w)else m):=rfl;rw[e];have h1:(if p w then min m (g w)else m)<=m:=by split<;>omega
  refine⟨by omega,λ v hv hp=>?_⟩;rcases yD.1 hv with rfl|hv
  ·have:(if p v then min m (g v)else m)<=g v:=by rw[if_pos hp];omega
   omega
  ·exact ih.2 v hv hp
theorem ZqO {p:Nat->Bool}{g:Nat->Nat}:∀{L:List Nat} {m:Nat},ZeW p g L m=m\/∃v,v∈L/\p v=true/\ZeW p g L m=g v
 |[],m=> .inl rfl
 |w::L,m=>by
  have ih:= @ZqO p g L (if p w then min m (g w)else m);have e:ZeW p g (w::L) m=ZeW p g L (if p w then min m (g w)else m):=rfl;rw[e];rcases ih with h|⟨v,h1,h2,h3⟩
  ·rw[h];by_cases c:p w=true
   ·rw[if_pos c];rcases Nat.le_total m (g w)with h4|h4
    ·left;omega
    ·right;exact⟨w,by simp,c,by omega⟩
   ·rw[if_neg c];exact .inl rfl
  ·exact .inr ⟨v,uN _ h1,h2,h3⟩
def atN (l:List Nat)(i:Nat):Nat:=(l[i]?).getD 0
def Zep (n:Nat)(fm:List Nat)(s v:Nat):Bool:=s.testBit v&&inB n (atN fm v) (s-2^v)
def Zfh (n:Nat)(c:Nat->Nat->Nat)(L:List Nat)(s v:Nat):Nat:=atN L (s-2^v)+((bits n (s-2^v)).map (c v)).sum
def costAt (n:Nat)(c:Nat->Nat->Nat)(fm L:List Nat)(s:Nat):Nat:=ZeW (Zep n fm s) (Zfh n c L s) (List.range n) 1048576
def Zcl (n:Nat)(c:Nat->Nat->Nat)(fm:List Nat):Nat->List Nat
 |0=>[0]
 |k+1=>Zcl n c fm k++[costAt n c fm (Zcl n c fm k) (k+1)]
theorem costL_len (n:Nat)(c:Nat->Nat->Nat)(fm:List Nat)(k:Nat):(Zcl n c fm k).length=k+1:=by
 induction k with
 |zero=>rfl
 |succ k ih=>simp[Zcl,ih]
def ZcP (n:Nat)(c:Nat->Nat->Nat)(fm:List Nat)(s:Nat):Nat:=atN (Zcl n c fm s) s
theorem costL_at (n:Nat)(c:Nat->Nat->Nat)(fm:List Nat){k s:Nat}(h:s<=k):atN (Zcl n c fm k) s=ZcP n c fm s:=by
 induction k with
 |zero=>obtain rfl:s=0:=by omega
        rfl
 |succ k ih=>
  rcases uC s (k+1)with h1|h1
  ·rw[<-ih (by omega)];simp only[atN,Zcl];rw[qW (by rw[costL_len];omega)]
  ·obtain rfl:s=k+1:=by omega
   rfl
theorem costN_zero (n:Nat)(c:Nat->Nat->Nat)(fm:List Nat):ZcP n c fm 0=0:=rfl
theorem costN_succ (n:Nat)(c:Nat->Nat->Nat)(fm:List Nat)(k:Nat):ZcP n c fm (k+1)=costAt n c fm (Zcl n c fm k) (k+1):=by
 simp only[ZcP,atN,Zcl];rw[qG (by rw[costL_len];omega),costL_len];simp
def Zes (n:Nat)(c:Nat->Nat->Nat)(fm:List Nat):Nat:=ZcP n c fm (2^n-1)
def fmF (fm:List Nat)(v u:Nat):Bool:=(atN fm v).testBit u
def ZeK (n s:Nat)(R:List Nat):Prop:=R.Nodup/\∀u,u∈R↔u<n/\s.testBit u=true
theorem pow_le8 {n:Nat}(h:n<=8):2^n<=256:=zI (n:=2) (by decide) h
theorem ZpJ {n s:Nat}{R:List Nat}(h:ZeK n s R):R.Perm (bits n s):=
 (Ay h.1 (List.nodup_range.filter _)).2 λ u=>(h.2 u).trans mem_bits.symm
theorem ZeK.tail {n s v:Nat}{P:List Nat}(h8:n<=8)(hs:s<2^n)(h:ZeK n s (v::P)):v<n/\s.testBit v=true/\s-2^v<s/\ZeK n (s-2^v) P:=by
 have:=pow_le8 h8;obtain⟨h1,h2⟩:=(h.2 v).1 (by simp);obtain⟨h3,h4⟩:=clr s (by omega) v (by omega) h2;have hn:=yV.1 h.1;refine⟨h1,h2,h3,hn.2,λ u=>?_⟩;constructor
 ·intro hu;obtain⟨h5,h6⟩:=(h.2 u).1 (uN _ hu);refine⟨h5,?_⟩;rw[h4 u (by omega),h6];have:u≠v:=λ e=>hn.1 (e▸hu)
  simp[this]
 ·rintro⟨h5,h6⟩;rw[h4 u (by omega)]at h6;simp only[uM,yI,yZ]at h6;rcases yD.1 ((h.2 u).2 ⟨h5,h6.1⟩)with e|h7
  ·exact(h6.2 e).elim
  ·exact h7
theorem ZeK.cons {n s v:Nat}{P:List Nat}(h8:n<=8)(hs:s<2^n)(hv:v<n)(hb:s.testBit v=true)(h:ZeK n (s-2^v) P):ZeK n s (v::P):=by
 have:=pow_le8 h8;obtain⟨h3,h4⟩:=clr s (by omega) v (by omega) hb;refine⟨yV.2 ⟨λ hc=>?_,h.1⟩,λ u=>?_⟩
 ·have:=((h.2 v).1 hc).2;rw[h4 v (by omega)]at this;simp at this
 ·rw[yD,h.2];constructor
  ·rintro(rfl|⟨h5,h6⟩)
   ·exact⟨hv,hb⟩
   ·rw[h4 u (by omega)]at h6;simp only[uM]at h6;exact⟨h5,h6.1⟩
  ·rintro⟨h5,h6⟩;by_cases e:u=v
   ·exact .inl e
   ·right
    refine⟨h5,?_⟩;rw[h4 u (by omega),h6];simp[e]
theorem Zz3 {n s:Nat}(hs:s<2^n)(h:ZeK n s []):s=0:=by
 refine Az λ u=>?_
 rw[Ca];rcases uC u n with hu|hu
 ·cases hb:s.testBit u
  ·rfl
  ·have:=(h.2 u).2 ⟨hu,hb⟩;cases this
 ·exact zP (gJ hs (zI (by decide) hu))
theorem ZmQ {n:Nat}(h8:n<=8)(c:Nat->Nat->Nat)(fm:List Nat):∀(R:List Nat) (s:Nat),s<2^n->ZeK n s R->ZeI (fmF fm) R->ZcP n c fm s<=bkR c R
 |[],s,hs,ho,_=>by
  rw[Zz3 hs ho,costN_zero];exact uG _
 |v::P,s,hs,ho,ha=>by
  obtain⟨h1,h2,h3,h4⟩:=ho.tail h8 hs;obtain⟨k,rfl⟩:∃k,s=k+1:=⟨s-1,by omega⟩;have ih:=ZmQ h8 c fm P _ (by omega) h4 ha.1;rw[costN_succ,costAt];have hok:Zep n fm (k+1) v=true:=by
   simp only[Zep,h2,kC];exact inB_iff.2 λ u hu hb=>((h4.2 u).1 (ha.2 u hb)).2
  have:=(@foldMin_le (Zep n fm (k+1)) (Zfh n c (Zcl n c fm k) (k+1)) (List.range n) 1048576).2 v (yA.2 h1) hok;refine gQ this ?_;rw[Zfh,costL_at n c fm (by omega),bkR,<-Zsv ((ZpJ h4).map (c v))];omega
theorem ZmP {n:Nat}(h8:n<=8)(c:Nat->Nat->Nat)(fm:List Nat)(hf:∀v,atN fm v<2^n):∀(s:Nat),s<2^n->ZcP n c fm s<1048576->∃R,ZeK n s R/\ZeI (fmF fm) R/\bkR c R=ZcP n c fm s:=by
 intro s
 induction s using Nat.strongRecOn with
 |ind s ih=>
  intro hs hc;rcases qU s with rfl|hpos
  ·exact⟨[],⟨zF,by simp⟩,trivial,rfl⟩
  ·obtain⟨k,rfl⟩:∃k,s=k+1:=⟨s-1,by omega⟩;rw[costN_succ,costAt]at hc|-;rcases @ZqO (Zep n fm (k+1)) (Zfh n c (Zcl n c fm k) (k+1)) (List.range n) 1048576 with h|⟨v,h1,h2,h3⟩
   ·omega
   ·rw[h3]at hc|-;have hv:=yA.1 h1;simp only[Zep,uM]at h2;have:=pow_le8 h8;obtain⟨h4,h5⟩:=clr (k+1) (by omega) v (by omega) h2.1;rw[Zfh,costL_at n c fm (by omega)]at hc|-;obtain⟨P,g1,g2,g3⟩:=ih (k+1-2^v) h4 (by omega) (by omega);refine⟨v::P,g1.cons h8 hs hv h2.1,⟨g2,λ u hu=>?_⟩,?_⟩
    ·refine(g1.2 u).2 ?_;rcases uC u n with hun|hun
     ·exact⟨hun,inB_iff.1 h2.2 u hun hu⟩
     ·have:=zP (gJ (hf v) (zI (n:=2) (by decide) hun));rw[fmF,this]at hu;cases hu
    ·rw[bkR,g3,Zsv ((ZpJ g1).map (c v))]
theorem Zj3 {n:Nat}{R:List Nat}:ZeK n (2^n-1) R↔Part n 0 R.reverse:=by
 constructor
 ·rintro⟨h1,h2⟩;have h3:∀u,u∈R↔u<n:=λ u=>by rw[h2];simp[Ck]
  refine⟨Zlt.2 h1,λ v hv=>(h3 v).1 (qO.1 hv),?_⟩;have:=(Ay h1 kL).2 (λ u=>by rw[h3,yA]);simpa using this.length_eq
 ·intro h;refine⟨Zlt.1 h.nd,λ u=>?_⟩;constructor
  ·intro hu;have:=h.lt u (qO.2 hu);simp[Ck,this]
  ·rintro⟨hu,_⟩;exact qO.1 (Part.mem h hu)
theorem ZAb (n:Nat):Part n 0 (List.range n):=⟨kL,λ v hv=>yA.1 hv,by simp⟩
theorem ZfY {P:List Nat}{v u:Nat}(hu:u∈P):(P++[v]).idxOf u=P.idxOf u:=by rw[List.idxOf_append,if_pos hu]
theorem ZjE {P:List Nat}{v:Nat}(hv:v∉P):(P++[v]).idxOf v=P.length:=by
 rw[List.idxOf_append,if_neg hv];simp
theorem Zmi {F:Nat->Nat->Bool}:∀{R:List Nat},R.Nodup->(ZeI F R↔∀v,v∈R->∀u,F v u=true->u∈R/\R.reverse.idxOf u<R.reverse.idxOf v)
 |[],_=>by simp[ZeI]
 |v::P,hn=>by
  have hn':=yV.1 hn;have hv:v∉P.reverse:=λ h=>hn'.1 (qO.1 h)
  rw[ZeI,Zmi hn'.2,List.reverse_cons];constructor
  ·rintro⟨h1,h2⟩ w hw u hu;rcases yD.1 hw with rfl|hw
   ·have h3:=h2 u hu;refine⟨uN _ h3,?_⟩;rw[ZjE hv,ZfY (qO.2 h3)];exact gV (qO.2 h3)
   ·obtain⟨h3,h4⟩:=h1 w hw u hu;refine⟨uN _ h3,?_⟩;rw[ZfY (qO.2 h3),ZfY (qO.2 hw)];exact h4
  ·intro h;have key:∀w,w∈v::P->∀u,F w u=true->u∈P:=by
    intro w hw u hu;obtain⟨h3,h4⟩:=h w hw u hu;rcases yD.1 h3 with rfl|h3
    ·exfalso;rw[ZjE hv]at h4;rcases yD.1 hw with rfl|hw
     ·rw[ZjE hv]at h4;omega
     ·rw[ZfY (qO.2 hw)]at h4;have:=gV (qO.2 hw);omega
    ·exact h3
   refine⟨λ w hw u hu=>?_,λ u hu=>key v (by simp) u hu⟩;have h3:=key w (uN _ hw) u hu;have h4:=(h w (uN _ hw) u hu).2;rw[ZfY (qO.2 h3),ZfY (qO.2 hw)]at h4;exact⟨h3,h4⟩
def cnt (l:List NA)(u v:Nat):Nat:=(l.filter λ a=> !decide (a.1=a.2)&&(decide (a.1=u)&&decide (a.2=v))).length
def ind (a:NA)(u v:Nat):Nat:=if a.1≠a.2/\a.1=u/\a.2=v then 1 else 0
theorem cnt_cons (a:NA)(l:List NA)(u v:Nat):cnt (a::l) u v=ind a u v+cnt l u v:=by
 simp only[cnt,ind,jV];by_cases c:a.1≠a.2/\a.1=u/\a.2=v
 ·rw[if_pos c,if_pos (by simp[c.1,c.2.1,c.2.2];intro h;exact c.1 (by rw[c.2.1,c.2.2,h]))];simp;omega
 ·rw[if_neg c,if_neg (by simp only[uM,yI,yZ,uF];exact c)];simp
theorem Zt4 (f g:Nat->Nat):∀P:List Nat,(P.map λ u=>f u+g u).sum=(P.map f).sum+(P.map g).sum
 |[]=>rfl
 |x::P=>by simp[Zt4 f g P];omega
theorem ZpK (c d:Nat->Nat->Nat):∀R,bkR (λ u v=>c u v+d u v) R=bkR c R+bkR d R
 |[]=>rfl
 |v::P=>by
  simp only[bkR,ZpK c d P,Zt4];omega
theorem ZpN :∀R,bkR (λ _ _=>0) R=0
 |[]=>rfl
 |v::P=>by
  have h0:∀T:List Nat,(T.map λ _=>0).sum=0:=λ T=>by
   induction T with
   |nil=>rfl
   |cons x T ih=>rw[uS,jQ,ih]
  have:=h0 P;have e:bkR (λ _ _=>0) (v::P)=bkR (λ _ _=>0) P+(P.map λ _=>0).sum:=rfl;rw[e,ZpN P,this]
theorem Znl (a:NA)(v:Nat):∀{P:List Nat},P.Nodup->v∉P->(P.map (ind a v)).sum=if a.1=v/\a.2∈P then 1 else 0
 |[],_,_=>by simp
 |u::P,hn,hv=>by
  have hn':=yV.1 hn;rw[uS,jQ,Znl a v hn'.2 (λ h=>hv (uN _ h))];have hvu:v≠u:=λ h=>hv (by simp[h])
  simp only[ind,yD];by_cases c1:a.1=v
  ·by_cases c2:a.2=u
   ·have:a.2∉P:=c2▸hn'.1;rw[if_pos ⟨by rw[c1,c2];exact hvu,c1,c2⟩,if_neg (λ h=>this h.2),if_pos ⟨c1, .inl c2⟩]
   ·rw[if_neg (λ h=>c2 h.2.2)];by_cases c3:a.2∈P
    ·rw[if_pos ⟨c1,c3⟩,if_pos ⟨c1, .inr c3⟩]
    ·rw[if_neg (λ h=>c3 h.2),if_neg (λ h=>h.2.elim c2 c3)]
  ·rw[if_neg (λ h=>c1 h.2.1),if_neg (λ h=>c1 h.1),if_neg (λ h=>c1 h.1)]
theorem ZmB (a:NA):∀{R:List Nat},R.Nodup->(a.1∉R\/a.2∉R)->bkR (ind a) R=0
 |[],_,_=>rfl
 |v::P,hn,h=>by
  have hn':=yV.1 hn;rw[bkR,ZmB a hn'.2 (h.imp (λ h h'=>h (uN _ h')) (λ h h'=>h (uN _ h'))),Znl a v hn'.2 hn'.1,if_neg];rintro⟨h1,h2⟩;rcases h with h|h
  ·exact h (by simp[h1])
  ·exact h (uN _ h2)
theorem ZpM (a:NA):∀{R:List Nat},R.Nodup->a.1∈R->a.2∈R->bkR (ind a) R=if bwd R.reverse a then 1 else 0
 |[],_,h,_=>by cases h
 |v::P,hn,h1,h2=>by
  have hn':=yV.1 hn;have hv:v∉P.reverse:=λ h=>hn'.1 (qO.1 h)
  rw[bkR,Znl a v hn'.2 hn'.1,List.reverse_cons];by_cases c1:a.1=v
  ·rw[ZmB a hn'.2 (.inl (c1▸hn'.1))];by_cases c2:a.2=v
   ·rw[if_neg (λ h=>hn'.1 (c2▸h.2)),if_neg (by simp[bwd,c1,c2])]
   ·have h3:=(yD.1 h2).resolve_left c2;have h4:=gV (qO.2 h3);rw[if_pos ⟨c1,h3⟩,if_pos (by simp only[bwd,c1,uF];rw[ZjE hv,ZfY (qO.2 h3)];exact h4)]
  ·rw[if_neg (λ h=>c1 h.1)];have h3:=(yD.1 h1).resolve_left c1;by_cases c2:a.2=v
   ·rw[ZmB a hn'.2 (.inr (c2▸hn'.1)),if_neg];have h4:=gV (qO.2 h3);simp only[bwd,c2,uF];rw[ZjE hv,ZfY (qO.2 h3)];omega
   ·have h5:=(yD.1 h2).resolve_left c2;have e:bwd (P.reverse++[v]) a=bwd P.reverse a:=by
     simp only[bwd];rw[ZfY (qO.2 h3),ZfY (qO.2 h5)]
    rw[ZpM a hn'.2 h3 h5,e,jA]
theorem ZpL :∀(l:List NA) {R:List Nat},R.Nodup->(∀a,a∈l->a.1∈R/\a.2∈R)->bkR (cnt l) R=(l.filter (bwd R.reverse)).length
 |[],R,_,_=>by
  have:cnt []=λ _ _=>0:=rfl
  rw[this,ZpN];rfl
 |a::l,R,hn,h=>by
  have e:cnt (a::l)=λ u v=>ind a u v+cnt l u v:=funext λ u=>funext λ v=>cnt_cons a l u v
  rw[e,ZpK,ZpL l hn (λ b hb=>h b (uN _ hb)),ZpM a hn (h a (by simp)).1 (h a (by simp)).2,jV];split
  ·simp;omega
  ·simp
theorem Zpz (M:List Nat)(l:List NA):(ZaZ M l).length=(l.filter (bwd M)).length:=by
 have:∀k,k<=l.length->((List.range k).filter (Zgj M l)).length=((l.take k).filter (bwd M)).length:=by
  intro k
  induction k with
  |zero=>intro _;rfl
  |succ k ih=>
   intro hk;have hg:=uQ (show k<l.length by omega);rw[qP,gE,uH,ih (by omega),List.take_add_one,hg,gE,uH];simp only[Option.toList,jV,kH,Zgj,hg];split<;>rfl
 have h:=this l.length (uI _);rw[yH]at h;exact h
theorem ZmA {n:Nat}{l:List NA}{R:List Nat}(hi:InN n l)(hR:Part n 0 R.reverse):bkR (cnt l) R=(ZaZ R.reverse l).length:=by
 have hm:∀u,u<n->u∈R:=λ u hu=>qO.1 (Part.mem hR hu)
 rw[ZpL l (Zlt.1 hR.nd) (λ a ha=>⟨hm _ (hi a ha).1,hm _ (hi a ha).2⟩),Zpz]
def ZbW (fm:List Nat)(v u:Nat):List Nat:=fm.set v (atN fm v|||2^u)
def ZfR (n:Nat)(c:Nat->Nat->Nat)(size:Nat)(k:Nat)(a:NA)(st:List Nat×List Nat):List Nat×List Nat:=
 if a.1=a.2 then st else if Zes n c (ZbW st.1 a.1 a.2)=size then(ZbW st.1 a.1 a.2,st.2++[k])else(ZbW st.1 a.2 a.1,st.2)
def ZcC (n:Nat)(c:Nat->Nat->Nat)(size:Nat)(l:List NA):Nat->List Nat×List Nat
 |0=>(List.replicate n 0,[])
 |k+1=>match l[k]? with
  |some a=>ZfR n c size k a (ZcC n c size l k)
  |none=>ZcC n c size l k
def ZbF (n:Nat)(l:List NA):Nat:=Zes n (cnt l) (List.replicate n 0)
def Zbn (n:Nat)(l:List NA):List Nat:=(ZcC n (cnt l) (ZbF n l) l l.length).2
theorem Zpt {fm:List Nat}{v u w:Nat}(hv:v<fm.length):atN (ZbW fm v u) w=if w=v then atN fm v|||2^u else atN fm w:=by
 simp only[atN,ZbW,yX];by_cases c:v=w
 ·subst c;simp[hv]
 ·rw[if_neg c,if_neg (Ne.symm c)]
theorem ZxB {fm:List Nat}{v u w x:Nat}(hv:v<fm.length):fmF (ZbW fm v u) w x=(fmF fm w x||(decide (w=v)&&decide (x=u))):=by
 simp only[fmF,Zpt hv];by_cases c:w=v
 ·subst c;rw[if_pos rfl,Nat.testBit_or,Nat.testBit_two_pow];by_cases c2:x=u
  ·simp[c2]
  ·simp[c2,Ne.symm c2]
 ·simp[c]
theorem orAt_lt {n:Nat}{fm:List Nat}{v u:Nat}(hv:v<fm.length)(hu:u<n)(h:∀w,atN fm w<2^n):∀w,atN (ZbW fm v u) w<2^n:=by
 intro w;rw[Zpt hv];split
 ·exact Nat.or_lt_two_pow (h v) (Ba (by decide) hu)
 ·exact h w
structure Dec (n:Nat)(l:List NA)(k:Nat)(fm D:List Nat):Prop where
 len:fm.length=n
 lt:∀w,atN fm w<2^n
 asc:Asc D
 below:∀i,i∈D->i<k
 adm:∀R,Part n 0 R.reverse->(ZeI (fmF fm) R↔∀j,j<k->(j∈D↔j∈ZaZ R.reverse l))
 some:∃R,Part n 0 R.reverse/\ZeI (fmF fm) R/\bkR (cnt l) R=ZbF n l
 first:∀R,Part n 0 R.reverse->bkR (cnt l) R=ZbF n l->(∀j,j<k->(j∈D↔j∈ZaZ R.reverse l))\/∃j,j<k/\j∈D/\j∉ZaZ R.reverse l/\∀i,i<j->(i∈D↔i∈ZaZ R.reverse l)
theorem Zxl {α:Type}(p:α->Bool)(l:List α):(l.filter p).length<=l.length:=gT _ _
theorem atN_rep (n w:Nat):atN (List.replicate n 0) w=0:=by
 simp only[atN,qT];split<;>rfl
theorem Zpl (n:Nat)(R:List Nat):ZeI (fmF (List.replicate n 0)) R:=by
 induction R with
 |nil=>trivial
 |cons v P ih=>exact⟨ih,λ u hu=>by rw[fmF,atN_rep,Ca]at hu;cases hu⟩
theorem pow_pos' (n:Nat):0<2^n:=Nat.pow_pos (by decide)
theorem Zoq {n:Nat}{l:List NA}(h8:n<=8){R:List Nat}(hR:Part n 0 R.reverse):ZbF n l<=bkR (cnt l) R:=by
 have:=pow_pos' n;exact ZmQ h8 _ _ R _ (by omega) (Zj3.2 hR) (Zpl n R)
theorem ZvQ {n:Nat}{l:List NA}(hi:InN n l){R:List Nat}(hR:Part n 0 R.reverse):bkR (cnt l) R<=l.length:=by
 rw[ZmA hi hR,Zpz];exact Zxl _ _
theorem ZtI {n:Nat}{l:List NA}(h8:n<=8)(hi:InN n l):ZbF n l<=l.length:=by
 have hR:Part n 0 (List.range n).reverse.reverse:=by rw[zG];exact ZAb n
 exact gQ (Zoq h8 hR) (ZvQ hi hR)
theorem ZwP {n:Nat}{l:List NA}(h8:n<=8)(hi:InN n l)(hl:l.length<1048576):Dec n l 0 (List.replicate n 0) [] where
 len:=by simp
 lt:=λ w=>by rw[atN_rep];exact pow_pos' n
 asc:=List.Pairwise.nil
 below:=by simp
 adm:=λ R _=>⟨λ _ j h=>by omega,λ _=>Zpl n R⟩
 some:=by
  have:=pow_pos' n;have:=ZtI h8 hi;obtain⟨R,h1,h2,h3⟩:=ZmP h8 (cnt l) (List.replicate n 0) (λ w=>by rw[atN_rep];exact pow_pos' n) (2^n-1) (by omega) (by have:ZcP n (cnt l) (List.replicate n 0) (2^n-1)=ZbF n l:=rfl;omega);exact⟨R,Zj3.1 h1,h2,h3⟩
 first:=λ R _ _=> .inl λ j h=>by omega
theorem ZkF {n:Nat}{fm R:List Nat}{v u:Nat}(hv:v<fm.length)(hf:fm.length=n)(hu:u<n)(hR:Part n 0 R.reverse):ZeI (fmF (ZbW fm v u)) R↔ZeI (fmF fm) R/\R.reverse.idxOf u<R.reverse.idxOf v:=by
 have hn:=Zlt.1 hR.nd;have hm:∀u,u<n->u∈R:=λ u hu=>qO.1 (Part.mem hR hu)
 rw[Zmi hn,Zmi hn];simp only[ZxB hv,qZ,uM,uF];constructor
 ·intro h;exact⟨λ w hw x hx=>h w hw x (.inl hx),(h v (hm v (by omega)) u (.inr ⟨rfl,rfl⟩)).2⟩
 ·rintro⟨h1,h2⟩ w hw x (hx|⟨rfl,rfl⟩)
  ·exact h1 w hw x hx
  ·exact⟨hm x hu,h2⟩
theorem ZwO {n:Nat}{l:List NA}(h8:n<=8)(hi:InN n l)(hl:l.length<1048576){k:Nat}{a:NA}(ha:l[k]? =some a){st:List Nat×List Nat}(h:Dec n l k st.1 st.2):
  Dec n l (k+1) (ZfR n (cnt l) (ZbF n l) k a st).1 (ZfR n (cnt l) (ZbF n l) k a st).2:=by
 obtain⟨fm,D⟩:=st;dsimp only at h;have hin:=hi a (uA ha);have hkD:k∉D:=λ hc=>by have:=h.below k hc;omega
 have hmem:∀M:List Nat,k∈ZaZ M l↔bwd M a=true:=λ M=>by
  rw[Zlm];constructor
  ·rintro⟨b,hb,h2⟩;rw[ha]at hb;cases hb;exact h2
  ·intro h2;exact⟨a,ha,h2⟩
 have hpos:=pow_pos' n;have hsz:=ZtI h8 hi;simp only[ZfR];by_cases c:a.1=a.2
 ·rw[if_pos c];have hnb:∀M:List Nat,k∉ZaZ M l:=λ M hc=>Zv1 ((hmem M).1 hc) c
  have hext:∀M:List Nat,(∀j,j<k+1->(j∈D↔j∈ZaZ M l))↔∀j,j<k->(j∈D↔j∈ZaZ M l):=λ M=>by
   constructor
   ·intro h j hj;exact h j (by omega)
   ·intro h j hj;rcases qB.1 hj with h1|rfl
    ·exact h j h1
    ·exact⟨λ h=>(hkD h).elim,λ h=>(hnb M h).elim⟩
  exact{
   len:=h.len
   lt:=h.lt
   asc:=h.asc
   below:=λ i hi=>by have:=h.below i hi;omega
   adm:=λ R hR=>by rw[hext];exact h.adm R hR
   some:=h.some
   first:=λ R hR hs=>by
    rcases h.first R hR hs with h1|⟨j,h1,h2⟩
    ·exact .inl ((hext _).2 h1)
    ·exact .inr ⟨j,by omega,h2⟩}
 ·rw[if_neg c];have hv1:a.1<fm.length:=by rw[h.len];exact hin.1
  have hv2:a.2<fm.length:=by rw[h.len];exact hin.2
  have hbw:∀M:List Nat,bwd M a=true↔M.idxOf a.2<M.idxOf a.1:=λ M=>by simp[bwd]
  by_cases c2:Zes n (cnt l) (ZbW fm a.1 a.2)=ZbF n l
  ·rw[if_pos c2];have hext:∀M:List Nat,(∀j,j<k+1->(j∈D++[k]↔j∈ZaZ M l))↔(∀j,j<k->(j∈D↔j∈ZaZ M l))/\bwd M a=true:=λ M=>by
    constructor
    ·intro h;refine⟨λ j hj=>?_,(hmem M).1 ((h k (by omega)).1 (by simp))⟩;rw[<-h j (by omega)];have:j≠k:=by omega
     simp[this]
    ·rintro⟨h1,h2⟩ j hj;rcases qB.1 hj with h3|rfl
     ·rw[<-h1 j h3];have:j≠k:=by omega
      simp[this]
     ·exact⟨λ _=>(hmem M).2 h2,λ _=>by simp⟩
   exact{
    len:=by simp[ZbW,h.len]
    lt:=orAt_lt hv1 hin.2 h.lt
    asc:=gH.2 ⟨h.asc,zJ _ _,λ x hx y hy=>by rw[uT.1 hy];exact h.below x hx⟩
    below:=λ i hi=>by
     rcases yO.1 hi with h1|h1
     ·have:=h.below i h1;omega
     ·rw[uT.1 h1];omega
    adm:=λ R hR=>by rw[hext,ZkF hv1 h.len hin.2 hR,h.adm R hR,hbw]
    some:=by
     obtain⟨R,h1,h2,h3⟩:=ZmP h8 (cnt l) (ZbW fm a.1 a.2) (orAt_lt hv1 hin.2 h.lt) (2^n-1) (by omega) (by have e:ZcP n (cnt l) (ZbW fm a.1 a.2) (2^n-1)=Zes n (cnt l) (ZbW fm a.1 a.2):=rfl;omega);exact⟨R,Zj3.1 h1,h2,h3.trans c2⟩
    first:=λ R hR hs=>by
     rcases h.first R hR hs with h1|⟨j,h1,h2,h3,h4⟩
     ·by_cases c3:bwd R.reverse a=true
      ·exact .inl ((hext _).2 ⟨h1,c3⟩)
      ·refine .inr ⟨k,by omega,by simp,λ hc=>c3 ((hmem _).1 hc),λ i hi=>?_⟩;rw[<-h1 i hi];have:i≠k:=by omega
       simp[this]
     ·refine .inr ⟨j,by omega,by simp[h2],h3,λ i hi=>?_⟩;rw[<-h4 i hi];have:i≠k:=by omega
      simp[this]}
  ·rw[if_neg c2];have hno:∀R:List Nat,Part n 0 R.reverse->ZeI (fmF fm) R->bkR (cnt l) R=ZbF n l->bwd R.reverse a=false:=by
    intro R hR hA hs;cases hb:bwd R.reverse a
    ·rfl
    ·exfalso;have h1:=(ZkF hv1 h.len hin.2 hR).2 ⟨hA,(hbw _).1 hb⟩;have h2:=ZmQ h8 (cnt l) (ZbW fm a.1 a.2) R _ (by omega) (Zj3.2 hR) h1;have e:ZcP n (cnt l) (ZbW fm a.1 a.2) (2^n-1)=Zes n (cnt l) (ZbW fm a.1 a.2):=rfl;obtain⟨R',g1,g2,g3⟩:=ZmP h8 (cnt l) (ZbW fm a.1 a.2) (orAt_lt hv1 hin.2 h.lt) (2^n-1) (by omega) (by omega);have:=Zoq (l:=l) h8 (Zj3.1 g1);omega
   have hnb:∀R:List Nat,Part n 0 R.reverse->(R.reverse.idxOf a.1<R.reverse.idxOf a.2↔¬bwd R.reverse a=true):=λ R hR=>by
    rw[hbw];have:R.reverse.idxOf a.1≠R.reverse.idxOf a.2:=λ h=>c (ZxW (Part.mem hR hin.1) (Part.mem hR hin.2) h)
    omega
   have hext:∀M:List Nat,(∀j,j<k+1->(j∈D↔j∈ZaZ M l))↔(∀j,j<k->(j∈D↔j∈ZaZ M l))/\¬bwd M a=true:=λ M=>by
    constructor
    ·intro h;exact⟨λ j hj=>h j (by omega),λ hb=>hkD ((h k (by omega)).2 ((hmem M).2 hb))⟩
    ·rintro⟨h1,h2⟩ j hj;rcases qB.1 hj with h3|rfl
     ·exact h1 j h3
     ·exact⟨λ h=>(hkD h).elim,λ h=>(h2 ((hmem M).1 h)).elim⟩
   exact{
    len:=by simp[ZbW,h.len]
    lt:=orAt_lt hv2 hin.1 h.lt
    asc:=h.asc
    below:=λ i hi=>by have:=h.below i hi;omega
    adm:=λ R hR=>by rw[hext,ZkF hv2 h.len hin.1 hR,h.adm R hR,hnb R hR]
    some:=by
     obtain⟨R,h1,h2,h3⟩:=h.some;refine⟨R,h1,(ZkF hv2 h.len hin.1 h1).2 ⟨h2,(hnb R h1).2 ?_⟩,h3⟩;rw[hno R h1 h2 h3];decide
    first:=λ R hR hs=>by
     rcases h.first R hR hs with h1|⟨j,h1,h2⟩
     ·refine .inl ((hext _).2 ⟨h1,?_⟩);rw[hno R hR ((h.adm R hR).2 h1) hs];decide
     ·exact .inr ⟨j,by omega,h2⟩}
theorem dec_all {n:Nat}{l:List NA}(h8:n<=8)(hi:InN n l)(hl:l.length<1048576):∀k,k<=l.length->Dec n l k (ZcC n (cnt l) (ZbF n l) l k).1 (ZcC n (cnt l) (ZbF n l) l k).2
 |0,_=>ZwP h8 hi hl
 |k+1,hk=>by
  have ha:=uQ (show k<l.length by omega);rw[ZcC,ha];exact ZwO h8 hi hl ha (dec_all h8 hi hl k (by omega))
theorem ZyH {n:Nat}{l:List NA}(h8:n<=8)(hi:InN n l)(hl:l.length<1048576):∃M,Part n 0 M/\ZaZ M l=Zbn n l:=by
 have h:=dec_all h8 hi hl l.length (uI _);obtain⟨R,h1,h2,h3⟩:=h.some;refine⟨R.reverse,h1,(ZkO h.asc (ZkP _ _) λ j=>?_).symm⟩;have h4:=(h.adm R h1).1 h2;rcases uC j l.length with hj|hj
 ·exact h4 j hj
 ·constructor
  ·intro hc;have:=h.below j hc;omega
  ·intro hc;obtain⟨a,ha,_⟩:=Zlm.1 hc;have:=(uB.1 ha).1;omega
theorem ZyI {n:Nat}{l:List NA}(h8:n<=8)(hi:InN n l)(hl:l.length<1048576):(Zbn n l).length=ZbF n l:=by
 have h:=dec_all h8 hi hl l.length (uI _);obtain⟨R,h1,h2,h3⟩:=h.some;have h4:=(h.adm R h1).1 h2;rw[<-h3,ZmA hi h1]
 congr 1
 refine ZkO h.asc (ZkP _ _) λ j=>?_
 rcases uC j l.length with hj|hj
 ·exact h4 j hj
 ·constructor
  ·intro hc;have:=h.below j hc;omega
  ·intro hc;obtain⟨a,ha,_⟩:=Zlm.1 hc;have:=(uB.1 ha).1;omega
theorem ZyJ {n:Nat}{l:List NA}(h8:n<=8)(hi:InN n l)(hl:l.length<1048576){M:List Nat}(hM:Part n 0 M):ZbB (ZaZ M l) (Zbn n l)=false:=by
 have h:=dec_all h8 hi hl l.length (uI _);have hR:Part n 0 M.reverse.reverse:=by rw[zG];exact hM
 have hlen:=ZmA hi hR;have hlow:=Zoq (l:=l) h8 hR;have hll:=ZyI h8 hi hl;rw[zG]at hlen;cases hq:ZbB (ZaZ M l) (Zbn n l)with
 |false=>rfl
 |true=>
  have hq':=hq;rw[ZbB]at hq;by_cases c:(ZaZ M l).length=(Zbn n l).length
  ·rcases h.first M.reverse hR (by omega)with h1|⟨j,h1,h2,h3,h4⟩
   ·rw[zG]at h1;have:Zbn n l=ZaZ M l:=by
     refine ZkO h.asc (ZkP _ _) λ j=>?_
     rcases uC j l.length with hj|hj
     ·exact h1 j hj
     ·constructor
      ·intro hc;have:=h.below j hc;omega
      ·intro hc;obtain⟨a,ha,_⟩:=Zlm.1 hc;have:=(uB.1 ha).1;omega
    rw[if_pos c,this,lexLt_irr]at hq;cases hq
   ·rw[zG]at h3 h4;have h5:=ZrD (a:=Zbn n l) (b:=ZaZ M l) h.asc (ZkP _ _) c.symm h2 h3 h4;rw[if_pos c,Zny h5]at hq;cases hq
  ·rw[if_neg c]at hq;simp only[uF]at hq;omega
def ZcG (S:List Nat)(a:NA):Bool:= !decide (a.1=a.2)&&(decide (a.1∈S)&&decide (a.2∈S))
def Zdv (l:List NA)(S:List Nat)(v:Nat):Nat:=(l.filter λ a=>ZcG S a&&decide (a.1=v)).length
def Zdu (l:List NA)(S:List Nat)(v:Nat):Nat:=(l.filter λ a=>ZcG S a&&decide (a.2=v)).length
def Zd8 (n:Nat)(S:List Nat)(p:Nat->Bool):Option Nat:=(List.range n).find? λ v=>decide (v∈S)&&p v
def ZdH (acc:Option (List Nat))(s:List Nat):Option (List Nat):=match acc with
 |none=>some s
 |some b=>if ZbB s b then some s else some b
mutual
def Zb4 (n:Nat)(l:List NA):Nat->List Nat->List Nat
 |0,m=>ZaZ m l
 |f+1,m=>(ZaW n l f m n).getD []
def ZaW (n:Nat)(l:List NA)(f:Nat)(m:List Nat):Nat->Option (List Nat)
 |0=>none
 |k+1=>if k∈m then ZaW n l f m k else ZdH (ZaW n l f m k) (Zb4 n l f (m++[k]))
end
structure Best (n:Nat)(l:List NA)(m s:List Nat):Prop where
 is:∃t,Part n 0 (m++t)/\s=ZaZ (m++t) l
 least:∀t,Part n 0 (m++t)->ZbB (ZaZ (m++t) l) s=false
theorem ZyN (a:List Nat):ZbB a a=false:=by rw[ZbB,if_pos rfl];exact lexLt_irr a
theorem ZrA {a b c:List Nat}(h1:ZbB a b=false)(h2:ZbB b c=false):ZbB a c=false:=by
 cases h:ZbB a c
 ·rfl
 ·exfalso;cases h3:ZbB b a
  ·have:=Zrz h1 h3;subst this;rw[h2]at h;cases h
  ·have:=ZyO h3 h;rw[h2]at this;cases this
theorem ZtQ (n:Nat)(l:List NA):∀(f:Nat) (m:List Nat),Part n f m->Best n l m (Zb4 n l f m):=by
 intro f
 induction f with
 |zero=>
  intro m h;rw[Zb4];refine⟨⟨[],by rw[yT];exact h,by rw[yT]⟩,λ t ht=>?_⟩;have h1:=ht.len;have h2:=h.len;rw[uH]at h1;have:t=[]:=qI (by omega);subst this;rw[yT];exact ZyN _
 |succ f ih=>
  intro m h
  have key:∀k,k<=n->match ZaW n l f m k with
    |none=>∀u,u<k->u∈m
    |some s=>(∃t,Part n 0 (m++t)/\s=ZaZ (m++t) l)/\∀u t,u<k->Part n 0 (m++u::t)->ZbB (ZaZ (m++u::t) l) s=false:=by
   intro k
   induction k with
   |zero=>intro _;rw[ZaW];intro u hu;omega
   |succ k ihk=>
    intro hk;have ihk:=ihk (by omega);rw[ZaW];by_cases c:k∈m
    ·rw[if_pos c];revert ihk;rcases ZaW n l f m k with _|s<;>intro ihk
     ·intro u hu;rcases qB.1 hu with h1|rfl
      ·exact ihk u h1
      ·exact c
     ·refine⟨ihk.1,λ u t hu ht=>?_⟩;rcases qB.1 hu with h1|rfl
      ·exact ihk.2 u t h1 ht
      ·exfalso;have:=(kV.1 ht.nd).2.2 u c u (by simp);exact this rfl
    ·rw[if_neg c];have hb:=ih (m++[k]) (h.snoc (by omega) c);have e:∀t,m++[k]++t=m++k::t:=λ t=>by simp
     obtain⟨⟨t0,h1,h2⟩,h3⟩:=hb;rw[e]at h1 h2;have h3':∀t,Part n 0 (m++k::t)->ZbB (ZaZ (m++k::t) l) (Zb4 n l f (m++[k]))=false:=λ t ht=>by rw[<-e];exact h3 t (by rw[e];exact ht)
     revert ihk;rcases ZaW n l f m k with _|s<;>intro ihk
     ·refine⟨⟨_,h1,h2⟩,λ u t hu ht=>?_⟩;rcases qB.1 hu with h4|rfl
      ·exfalso;have:=(kV.1 ht.nd).2.2 u (ihk u h4) u (by simp);exact this rfl
      ·exact h3' t ht
     ·simp only[ZdH];cases hl:ZbB (Zb4 n l f (m++[k])) s
      ·rw[if_neg kK];refine⟨ihk.1,λ u t hu ht=>?_⟩;rcases qB.1 hu with h4|rfl
       ·exact ihk.2 u t h4 ht
       ·exact ZrA (h3' t ht) hl
      ·rw[if_pos rfl];refine⟨⟨_,h1,h2⟩,λ u t hu ht=>?_⟩;rcases qB.1 hu with h4|rfl
       ·exact ZrA (ihk.2 u t h4 ht) (ZyM hl)
       ·exact h3' t ht
  have hk:=key n (uI n);rw[Zb4];revert hk;rcases ZaW n l f m n with _|s<;>intro hk
  ·exfalso;have:=nd_le (n:=m.length) (G:=m) h.nd;have hm:n<=m.length:=by
    have:∀{a b:List Nat},a.Nodup->(∀x,x∈a->x∈b)->a.length<=b.length:=by
     intro a
     induction a with
     |nil=>intro b _ _;simp
     |cons x a ih=>
      intro b hn hs;have hn':=yV.1 hn;have hx:=hs x (by simp);have:=ih (b:=b.erase x) hn'.2 λ y hy=>(zX (λ e=>hn'.1 (by rw[<-e];exact hy))).2 (hs y (uN _ hy))
      rw[kD hx]at this;have:=zO hx;simp;omega
    have:=this (a:=List.range n) (b:=m) kL λ v hv=>hk v (yA.1 hv)
    simpa using this
   have:=h.len;omega
  ·refine⟨hk.1,λ t ht=>?_⟩;cases t with
   |nil=>
    have h1:=ht.len;have h2:=h.len;rw[yT]at h1;omega
   |cons u t=>exact hk.2 u t (ht.lt u (by simp)) ht
theorem srch_least {n:Nat}{l:List NA}(h8:n<=8)(hi:InN n l)(hl:l.length<1048576):Zb4 n l n []=Zbn n l:=by
 have hP:Part n n []:=⟨zF,by simp,by simp⟩;obtain⟨⟨t,h1,h2⟩,h3⟩:=ZtQ n l n [] hP;obtain⟨M,g1,g2⟩:=ZyH h8 hi hl;refine Zrz ?_ ?_
 ·rw[h2];exact ZyJ h8 hi hl h1
 ·rw[<-g2];exact h3 M g1
theorem srch_len (n:Nat)(l:List NA){f:Nat}{m:List Nat}(h:Part n f m):(Zb4 n l f m).length<=l.length:=by
 obtain⟨⟨t,h1,h2⟩,_⟩:=ZtQ n l f m h;rw[h2,ZaZ];exact gQ (gT _ _) (by simp)
end Go.Cy
namespace Go.PS
open Go
theorem Zo0 {n:Nat}(h:n<9223372036854775808):IntKind.i64.wrap (n:Int)=n:=by
 rw[IntKind.wrap_i64];omega
theorem Ziw (a:Nat):BitVec.ofInt 64 (a:Int)=BitVec.ofNat 64 a:=BitVec.ofInt_natCast _ _
theorem Zix {a:Nat}(h:a<9223372036854775808):(BitVec.ofNat 64 a).toNat=a:=by
 rw[BitVec.toNat_ofNat,Cv];omega
theorem ZvZ {a b:Nat}(ha:a<9223372036854775808)(hb:b<9223372036854775808):IntKind.i64.wrap ((BitVec.ofInt 64 (a:Int)&&&BitVec.ofInt 64 (b:Int)).toNat:Int)=((a&&&b:Nat):Int):=by
 rw[Ziw,Ziw,BitVec.toNat_and,Zix ha,Zix hb];exact Zo0 (Nat.lt_of_le_of_lt Nat.and_le_left ha)
theorem ZpS {a b:Nat}(ha:a<9223372036854775808)(hb:b<9223372036854775808):IntKind.i64.wrap ((BitVec.ofInt 64 (a:Int)|||BitVec.ofInt 64 (b:Int)).toNat:Int)=((a|||b:Nat):Int):=by
 rw[Ziw,Ziw,BitVec.toNat_or,Zix ha,Zix hb];exact Zo0 (Nat.or_lt_two_pow (n:=63) ha hb)
def Zfd (a b:Nat):Nat:=a^^^(a&&&b)
theorem ZkK (a b i:Nat):(Zfd a b).testBit i=(a.testBit i&& !b.testBit i):=by
 simp only[Zfd,Nat.testBit_xor,Nat.testBit_and];cases a.testBit i<;>cases b.testBit i<;>rfl
theorem ZpR {a b:Nat}(ha:a<9223372036854775808)(hb:b<9223372036854775808):IntKind.i64.wrap ((BitVec.ofInt 64 (a:Int)&&&~~~BitVec.ofInt 64 (b:Int)).toNat:Int)=((Zfd a b:Nat):Int):=by
 have e:(BitVec.ofNat 64 a&&&~~~BitVec.ofNat 64 b).toNat=Zfd a b:=by
  refine Az λ i=>?_
  rw[ZkK,BitVec.testBit_toNat,BitVec.getLsbD_and,BitVec.getLsbD_not];rw[<-BitVec.testBit_toNat,Zix ha,<-BitVec.testBit_toNat,Zix hb];rcases uC i 64 with h|h
  ·simp[h]
  ·have:a.testBit i=false:=zP (gJ ha (gQ (by decide:9223372036854775808<=2^64) (zI (n:=2) (by decide) h)));simp[this]
 rw[Ziw,Ziw,e];refine Zo0 (Nat.lt_of_le_of_lt ?_ ha);refine Nat.le_of_not_lt λ h=>?_
 have:Zfd a b<=a:=by
  have h1:=Nat.and_le_left (n:=a) (m:=Zfd a b);have h2:a&&&Zfd a b=Zfd a b:=by
   refine Az λ i=>?_
   rw[Nat.testBit_and,ZkK];cases a.testBit i<;>rfl
  rw[h2]at h1;exact h1
 omega
theorem Zvd {a b n:Nat}(ha:a<2^n):Zfd a b=0↔Go.Cy.inB n a b=true:=by
 rw[Go.Cy.inB_iff];constructor
 ·intro h u _ hu;have:=ZkK a b u;rw[h,Ca,hu]at this;simpa using this.symm
 ·intro h;refine Az λ u=>?_
  rw[ZkK,Ca];rcases uC u n with hu|hu
  ·cases hb:a.testBit u
   ·rfl
   ·rw[h u hu hb];rfl
  ·rw[zP (gJ ha (zI (by decide) hu))];rfl
theorem Zvc :∀s:Nat,s<256->∀v:Nat,v<8->s.testBit v=true->Zfd s (2^v)=s-2^v:=by decide+kernel
theorem ZCs :∀s:Nat,s<256->∀v:Nat,v<8->IntKind.i64.wrap ((BitVec.ofInt 64 ((s:Int).fdiv (2^min v 64))&&&1#64).toNat:Int)=if s.testBit v then 1 else 0:=by decide+kernel
theorem ZlP :∀n:Nat,n<=8->IntKind.i64.wrap (1*2^min n 64)=((2^n:Nat):Int):=by decide+kernel
end Go.PS
