/- Branch and bound finds what the exhaustive search finds: the plain law (no program in sight). -/
import Derived.Test.YtjjbhjnpeenbkaaGreatDoorPSAlias
set_option linter.unusedSimpArgs false
set_option linter.unusedVariables false
set_option maxHeartbeats 16000000
namespace Go.Bd
def sm (f:Nat->Int):Nat->Int
 |0=>0
 |k+1=>sm f k+f k
theorem sm_congr {f g:Nat->Int}:∀n,(∀k,k<n->f k=g k)->sm f n=sm g n
 |0,_=>rfl
 |n+1,h=>by rw[sm,sm,sm_congr n λ k Z=>h k xA,h n xA]
theorem uq (f g:Nat->Int):∀n,sm (λ k=>f k+g k) n=sm f n+sm g n
 |0=>rfl
 |n+1=>by rw[sm,sm,sm,uq f g n];omega
theorem HW {f g:Nat->Int}:∀n,(∀k,k<n->f k<=g k)->sm f n<=sm g n
 |0,_=>qR _
 |n+1,h=>by
  have:=HW n λ k Z=>h k xA
  have:=h n xA;rw[sm,sm];omega
theorem HX :∀n,sm (λ _=>0) n=0
 |0=>rfl
 |n+1=>by rw[sm,HX n];rfl
theorem qd {f:Nat->Int}(n:Nat)(h:∀k,k<n->f k=0):sm f n=0:=by rw[sm_congr n h,HX]
theorem y3 (v:Nat)(x:Int):∀n,sm (λ k=>if k=v then x else 0) n=if v<n then x else 0
 |0=>rfl
 |n+1=>by
  rw[sm,y3 v x n];by_cases c:n=v
  ·subst c;rw[if_neg xA,if_pos rfl,if_pos xA];omega
  ·by_cases Z:v<n
   ·rw[if_pos Z,if_neg c,if_pos xA];omega
   ·rw[if_neg Z,if_neg c,if_neg xA];rfl
def b7 {Z:Type}:Option (Z×Int)->Option (Z×Int)->Option (Z×Int)
 |none,y=>y
 |some x,none=>some x
 |some x,some y=>if y.2<x.2 then some y else some x
theorem po {Z:Type}(x:Option (Z×Int)):b7 x none=x:=by cases x<;>rfl
theorem Ke {X:Type}(x y z:Option (X×Int)):b7 (b7 x y) z=b7 x (b7 y z):=by
 rcases x with _|x<;>rcases y with _|y<;>rcases z with _|z<;>try rfl
 ·rw[po,po]
 ·by_cases h:y.2<x.2<;>by_cases Z:z.2<y.2<;>by_cases Y:z.2<x.2<;>first|(exfalso;omega)|simp[b7,h,Z,Y]
theorem wx {Z Y:Type}(B:Y->Option (Z×Int)):∀(L:List Y) (st:Option (Z×Int)),L.foldl (λ st v=>b7 st (B v)) st=b7 st (L.foldl (λ st v=>b7 st (B v)) none)
 |[],st=>(po st).symm
 |v::L,st=>by
  rw[jG,jG,wx B L,wx B L (b7 none (B v)),Ke];rfl
section bound
variable (c:Nat->Nat->Int)(n:Nat)
def aI :List Nat->Int
 |[]=>0
 |u::l=>(l.map (c u)).sum+aI l
def fr (l:List Nat)(w:Nat):Int:=if w∈l then 0 else 1
def fu (l:List Nat)(v:Nat):Int:=sm (λ w=>if w≠v/\w∉l then c v w else 0) n
def ft (l:List Nat)(v:Nat):Int:=sm (λ w=>if w≠v/\w∉l then min (c v w) (c w v)else 0) n
def low (l:List Nat):Int:=sm (λ b=>sm (λ a=>if a∉l/\b∉l then min (c a b) (c b a)else 0) b) n
def co :Nat->List Nat->Option (List Nat×Int)
 |0,l=>some (l,aI c l)
 |f+1,l=>(List.range n).foldl (λ s v=>b7 s (if v∈l then none else co f (l++[v]))) none
def fK (st:Option (List Nat×Int))(x:Int):Bool:=match st with
 |none=>false
 |some s=>decide (s.2<=x)
def dW :Nat->List Nat->Int->Int->Option (List Nat×Int)->Option (List Nat×Int)
 |0,l,Z,Y,s=>if fK s (Z+Y)then s else some (l,Z)
 |f+1,l,Z,Y,s=>if fK s (Z+Y)then s else(List.range n).foldl (λ s v=>if v∈l then s else dW f (l++[v]) (Z+fu c n l v) (Y-ft c n l v) s) s
def k8 (l:List Nat):Int:=aI c l+(l.map λ u=>sm (λ w=>if w∉l then c u w else 0) n).sum
theorem zf (v:Nat):∀l:List Nat,aI c (l++[v])=aI c l+(l.map λ u=>c u v).sum
 |[]=>by simp[aI]
 |u::l=>by
  simp only[gK,aI,uO,Cb,uS,uY,jE,Cz,zf v l];omega
theorem OZ {l:List Nat}{v:Nat}(V:v<n)(X:v∉l)(f:Nat->Int):sm (λ w=>if w∉l then f w else 0) n=f v+sm (λ w=>if w∉l++[v]then f w else 0) n:=by
 have h:∀w,w<n->(if w∉l then f w else 0)=(if w=v then f v else 0)+(if w∉l++[v]then f w else 0):=λ w _=>by
  by_cases Y:w=v
  ·subst Y;rw[if_pos X,if_pos rfl,if_neg xB];omega
  ·rw[if_neg Y];by_cases Z:w∈l
   ·rw[if_neg (by simpa using Z),if_neg (by simp[Z])];omega
   ·rw[if_pos Z,if_pos (by simp[Y,Z])];omega
 rw[sm_congr n h,uq,y3,if_pos V]
theorem zi {f g:Nat->Int}:∀l:List Nat,(l.map λ u=>f u+g u).sum=(l.map f).sum+(l.map g).sum
 |[]=>rfl
 |u::l=>by simp only[uS,jE,zi l];omega
theorem Eh {l:List Nat}{v:Nat}(T:v<n)(U:v∉l):k8 c n (l++[v])=k8 c n l+fu c n l v:=by
 have X:(l.map λ u=>sm (λ w=>if w∉l then c u w else 0) n)=l.map λ u=>c u v+sm (λ w=>if w∉l++[v]then c u w else 0) n:=
  yK λ u _=>OZ n T U (c u)
 have V:fu c n l v=sm (λ w=>if w∉l++[v]then c v w else 0) n:=sm_congr n λ w _=>by
  by_cases Z:w=v
  ·rw[if_neg (λ h=>h.1 Z),if_neg (by simp[Z])]
  ·by_cases Y:w∈l
   ·rw[if_neg (λ h=>h.2 Y),if_neg (by simp[Y])]
   ·rw[if_pos ⟨Z,Y⟩,if_pos (by simp[Z,Y])]
 rw[k8,k8,zf,X,zi,V,uO,Cb];simp only[uS,uY,jE,Cz];omega
theorem Fw {l:List Nat}{v:Nat}(J:v<n)(O:v∉l):low c n l=ft c n l v+low c n (l++[v]):=by
 have R:∀k,sm (λ b=>sm (λ a=>if a∉l/\b∉l then min (c a b) (c b a)else 0) b) k=
   sm (λ w=>if w≠v/\w∉l/\v<k then min (c v w) (c w v)else 0) k+sm (λ b=>sm (λ a=>if a∉l++[v]/\b∉l++[v]then min (c a b) (c b a)else 0) b) k:=by
  intro k
  induction k with
  |zero=>rfl
  |succ k I=>
   rw[sm,I,sm,sm];have H:∀a,(a∉l++[v])↔a∉l/\a≠v:=λ a=>xB
   by_cases T:k=v
   ·subst T;have S:sm (λ w=>if w≠k/\w∉l/\k<k then min (c k w) (c w k)else 0) k=0:=qd k λ w _=>if_neg λ h=>xA
    have N:sm (λ a=>if a∉l/\k∉l then min (c a k) (c k a)else 0) k=sm (λ w=>if w≠k/\w∉l/\k<k+1 then min (c k w) (c w k)else 0) k:=sm_congr k λ w G=>by
     by_cases Z:w∈l
     ·rw[if_neg (λ h=>h.1 Z),if_neg (λ h=>h.2.1 Z)]
     ·rw[if_pos ⟨Z,O⟩,if_pos ⟨xA,Z,xA⟩,Int.min_comm]
    have M:sm (λ a=>if a∉l++[k]/\k∉l++[k]then min (c a k) (c k a)else 0) k=0:=qd k λ w _=>if_neg λ h=>h.2 xB
    rw[S,N,M,if_neg (λ h=>h.1 rfl)];omega
   ·have S:sm (λ w=>if w≠v/\w∉l/\v<k+1 then min (c v w) (c w v)else 0) k=sm (λ w=>if w≠v/\w∉l/\v<k then min (c v w) (c w v)else 0) k:=sm_congr k λ w _=>by
     by_cases Y:w≠v/\w∉l
     ·by_cases X:v<k
      ·rw[if_pos ⟨Y.1,Y.2,xA⟩,if_pos ⟨Y.1,Y.2,X⟩]
      ·rw[if_neg (λ h=>xA),if_neg (λ h=>X h.2.2)]
     ·rw[if_neg (λ h=>Y ⟨h.1,h.2.1⟩),if_neg (λ h=>Y ⟨h.1,h.2.1⟩)]
    rw[S];by_cases Z:k∈l
    ·have Q:∀m:List Nat,k∈m->sm (λ a=>if a∉m/\k∉m then min (c a k) (c k a)else 0) k=0:=λ m K=>qd k λ w _=>if_neg λ h=>h.2 K
     rw[Q l Z,Q (l++[v]) (by simp[Z]),if_neg (λ h=>h.2.1 Z)];omega
    ·have L:sm (λ a=>if a∉l/\k∉l then min (c a k) (c k a)else 0) k=(if v<k then min (c v k) (c k v)else 0)+sm (λ a=>if a∉l++[v]/\k∉l++[v]then min (c a k) (c k a)else 0) k:=by
      have:∀a,a<k->(if a∉l/\k∉l then min (c a k) (c k a)else 0)=(if a=v then min (c v k) (c k v)else 0)+(if a∉l++[v]/\k∉l++[v]then min (c a k) (c k a)else 0):=λ a _=>by
       by_cases V:a=v
       ·subst V;rw[if_pos ⟨O,Z⟩,if_pos rfl,if_neg (λ h=>h.1 xB)];omega
       ·by_cases U:a∈l
        ·rw[if_neg (λ h=>h.1 U),if_neg V,if_neg (λ h=>h.1 (by simp[U]))];rfl
        ·rw[if_pos ⟨U,Z⟩,if_neg V,if_pos ⟨by simp[V,U],by simp[T,Z]⟩];omega
      rw[sm_congr k this,uq,y3]
     rw[L];by_cases X:v<k
     ·rw[if_pos X,if_pos ⟨T,Z,xA⟩];omega
     ·rw[if_neg X,if_neg (λ h=>xA)];omega
 rw[low,R n]
 congr 1
 exact sm_congr n λ w _=>by
  by_cases Y:w≠v/\w∉l
  ·rw[if_pos ⟨Y.1,Y.2,J⟩,if_pos Y]
  ·rw[if_neg (λ h=>Y ⟨h.1,h.2.1⟩),if_neg Y]
theorem Ns (l:List Nat)(v:Nat):ft c n l v<=fu c n l v:=HW n λ w _=>by
 by_cases h:w≠v/\w∉l
 ·rw[if_pos h,if_pos h];exact Int.min_le_left _ _
 ·rw[if_neg h,if_neg h];exact qR _
theorem oJ :∀(n:Nat) (l:List Nat),l.Nodup->(∀v,v∈l->v<n)->l.length<=n
 |0,[],_,_=>uI _
 |0,v::l,_,h=>by have:=h v xB;omega
 |n+1,l,Y,h=>by
  have Z:=oJ n (l.erase n) (Y.erase n) λ v X=>by
   have V:=h v (List.mem_of_mem_erase X);have U:v≠n:=(List.Nodup.mem_erase_iff Y).1 X |>.1
   omega
  rw[List.length_erase]at Z;split at Z<;>omega
theorem mr {l:List Nat}(Y:l.Nodup)(h:∀v,v∈l->v<n)(U:l.length=n):∀v,v<n->v∈l:=by
 intro v V;apply gH;intro X;have:=oJ n (v::l) (qI.2 ⟨X,Y⟩) λ w Z=>by
  rcases yI.1 Z with rfl|Z
  ·exact V
  ·exact h w Z
 simp at this;omega
theorem Fu {l:List Nat}(h:∀v,v<n->v∈l):low c n l=0:=qd n λ b Y=>qd b λ _ _=>if_neg λ Z=>Z.2 (h b Y)
theorem wo {l:List Nat}(h:∀v,v<n->v∈l):k8 c n l=aI c l:=by
 have:(l.map λ u=>sm (λ w=>if w∉l then c u w else 0) n).sum=0:=by
  have:(l.map λ u=>sm (λ w=>if w∉l then c u w else 0) n)=l.map λ _=>0:=yK λ u _=>qd n λ w Y=>if_neg λ Z=>Z (h w Y)
  rw[this];clear this h
  induction l with
  |nil=>rfl
  |cons u l X=>simp only[uS,jE,X];rfl
 rw[k8,this];omega
theorem Kg {X:Type}{x y:Option (X×Int)}{k:Int}(Z:∀s,x=some s->k<=s.2)(Y:∀s,y=some s->k<=s.2):∀s,b7 x y=some s->k<=s.2:=by
 intro s h;rcases x with _|x<;>rcases y with _|y<;>simp only[b7]at h
 ·cases h
 ·exact Y s h
 ·exact Z s h
 ·split at h
  ·exact Y s h
  ·exact Z s h
theorem Em {Y:Type}{B:Nat->Option (Y×Int)}{k:Int}:∀(L:List Nat),(∀v,v∈L->∀s,B v=some s->k<=s.2)->∀(st:Option (Y×Int)),(∀s,st=some s->k<=s.2)->∀s,L.foldl (λ st v=>b7 st (B v)) st=some s->k<=s.2
 |[],_,_,h=>h
 |v::L,Z,st,h=>Em L (λ w X=>Z w (uP _ X)) _ (Kg h (Z v xB))
structure Part (f:Nat)(l:List Nat):Prop where
 nd:l.Nodup
 lt:∀v,v∈l->v<n
 len:l.length+f=n
variable {n}
theorem Part.snoc {f:Nat}{l:List Nat}(h:Part n (f+1) l){v:Nat}(U:v<n)(V:v∉l):Part n f (l++[v]):=by
 refine⟨?_,?_,by have:=h.len;simp;omega⟩
 ·rw[zC];refine⟨h.nd,xB,?_⟩;intro a X b Y;rw[uX]at Y;subst Y;rintro rfl;exact V X
 ·intro w Z;rcases yP.1 Z with Z|Z
  ·exact h.lt w Z
  ·rw[uX.1 Z];exact U
theorem q8 :∀(f:Nat) (l:List Nat),Part n f l->∀s,co c n f l=some s->k8 c n l+low c n l<=s.2
 |0,l,h,s,Y=>by
  have U:=mr n h.nd h.lt (by have:=h.len;omega);rw[co]at Y;cases Y;rw[wo c n U,Fu c n U];dsimp only;omega
 |f+1,l,h,s,Y=>by
  rw[co]at Y;refine Em (k:=k8 c n l+low c n l) (B:=λ v=>if v∈l then none else co c n f (l++[v])) (List.range n) (λ v X t V=>?_) none (λ _ h=>by cases h) s Y;by_cases Z:v∈l
  ·rw[if_pos Z]at V;cases V
  ·rw[if_neg Z]at V;have X:=yD.1 X;have Q:=q8 f (l++[v]) (h.snoc X Z) t V;have T:=Eh c n X Z;have S:=Fw c n X Z;have R:=Ns c n l v;omega
theorem HO {st x:Option (List Nat×Int)}{k:Int}(h:fK st k=true)(Z:∀s,x=some s->k<=s.2):b7 st x=st:=by
 rcases st with _|s
 ·cases h
 ·rcases x with _|y
  ·rfl
  ·have Y:=Z y rfl;simp only[fK,uG]at h;simp only[b7];rw[if_neg xA]
theorem ext_best :∀(f:Nat) (l:List Nat),Part n f l->∀st,dW c n f l (k8 c n l) (low c n l) st=b7 st (co c n f l)
 |0,l,h,st=>by
  have U:=mr n h.nd h.lt (by have:=h.len;omega);have V:=q8 c 0 l h;rw[dW];split
  ·rename_i Y;exact(HO Y V).symm
  ·rename_i Y;rw[co,wo c n U];rcases st with _|s
   ·rfl
   ·simp only[b7];rw[Fu c n U,wo c n U]at Y;simp only[fK,uG,jM]at Y;rw[if_pos xA]
 |f+1,l,h,st=>by
  have V:=q8 c (f+1) l h;rw[dW];split
  ·rename_i Y;exact(HO Y V).symm
  ·rw[co,<-wx (λ v=>if v∈l then none else co c n f (l++[v])) (List.range n) st];have:∀(L:List Nat),(∀v,v∈L->v<n)->∀st,L.foldl (λ st v=>if v∈l then st else dW c n f (l++[v]) (k8 c n l+fu c n l v) (low c n l-ft c n l v) st) st=L.foldl (λ st v=>b7 st (if v∈l then none else co c n f (l++[v]))) st:=by
    intro L
    induction L with
    |nil=>intro _ _;rfl
    |cons v L R=>
     intro hL st;rw[jG,jG,R λ w S=>hL w (uP _ S)]
     congr 1
     by_cases Z:v∈l
     ·rw[if_pos Z,if_pos Z,po]
     ·rw[if_neg Z,if_neg Z];have X:=hL v xB;have T:=Eh c n X Z;have Q:=Fw c n X Z;rw[<-T,show low c n l-ft c n l v=low c n (l++[v]) by omega];exact ext_best f (l++[v]) (h.snoc X Z) st
   exact this (List.range n) (λ v X=>yD.1 X) st
theorem En {X:Type}{B:Nat->Option (X×Int)}:∀(L:List Nat) (st:Option (X×Int)) (s:X×Int),L.foldl (λ st v=>b7 st (B v)) st=some s->st=some s\/∃v,v∈L/\B v=some s
 |[],_,_,h=> .inl h
 |v::L,st,s,h=>by
  rcases En L _ s h with Z|⟨w,Z,V⟩
  ·dsimp only at Z;rcases st with _|x
   ·exact .inr ⟨v,xB,Z⟩
   ·cases Y:B v with
    |none=>rw[Y,po]at Z;exact .inl Z
    |some y=>
     rw[Y]at Z;simp only[b7]at Z;split at Z
     ·exact .inr ⟨v,xB,by rw[Y];exact Z⟩
     ·exact .inl Z
  ·exact .inr ⟨w,uP _ Z,V⟩
theorem Kf {Z:Type}(x y:Option (Z×Int)){s:Z×Int}(h:x=some s\/y=some s):∃t,b7 x y=some t/\t.2<=s.2:=by
 rcases x with _|x<;>rcases y with _|y
 ·rcases h with h|h<;>cases h
 ·rcases h with h|h<;>cases h
  exact⟨_,rfl,qR _⟩
 ·rcases h with h|h<;>cases h
  exact⟨_,rfl,qR _⟩
 ·simp only[b7];by_cases c:y.2<x.2
  ·rw[if_pos c];refine⟨_,rfl,?_⟩;rcases h with h|h<;>cases h<;>omega
  ·rw[if_neg c];refine⟨_,rfl,?_⟩;rcases h with h|h<;>cases h<;>omega
theorem ww {Y:Type}{B:Nat->Option (Y×Int)}:∀(L:List Nat) (st:Option (Y×Int)) (s:Y×Int),(st=some s\/∃v,v∈L/\B v=some s)->∃t,L.foldl (λ st v=>b7 st (B v)) st=some t/\t.2<=s.2
 |[],st,s,h=>by
  rcases h with h|⟨v,T,_⟩
  ·exact⟨s,h,qR _⟩
  ·cases T
 |v::L,st,s,h=>by
  have go:(st=some s\/B v=some s)->∃t,(v::L).foldl (λ st v=>b7 st (B v)) st=some t/\t.2<=s.2:=λ h=>by
   obtain⟨t,V,S⟩:=Kf st (B v) h;obtain⟨u,U,R⟩:=ww L (b7 st (B v)) t (.inl V);exact⟨u,U,xA⟩
  rcases h with h|⟨w,Z,X⟩
  ·exact go (.inl h)
  ·rcases yI.1 Z with rfl|Z
   ·exact go (.inr X)
   ·exact ww L _ s (.inr ⟨w,Z,X⟩)
theorem best_of :∀(f:Nat) (l:List Nat),Part n f l->∀s,co c n f l=some s->Part n 0 s.1/\l<+:s.1/\s.2=aI c s.1
 |0,l,h,s,Y=>by rw[co]at Y;cases Y;exact⟨h,List.prefix_refl _,rfl⟩
 |f+1,l,h,s,Y=>by
  rw[co]at Y;rcases En (B:=λ v=>if v∈l then none else co c n f (l++[v])) _ _ _ Y with Z|⟨v,S,Z⟩
  ·cases Z
  ·by_cases X:v∈l
   ·rw[if_pos X]at Z;cases Z
   ·rw[if_neg X]at Z;obtain⟨V,U,T⟩:=best_of f (l++[v]) (h.snoc (yD.1 S) X) s Z;exact⟨V,(List.prefix_append l [v]).trans U,T⟩
end bound
section pairs
theorem mN (c d:Nat->Nat->Int):∀l:List Nat,aI (λ u v=>c u v+d u v) l=aI c l+aI d l
 |[]=>rfl
 |u::l=>by
  have:=zi (f:=c u) (g:=d u) l;simp only[aI,mN c d l];omega
theorem mO :∀l:List Nat,aI (λ _ _=>0) l=0
 |[]=>rfl
 |u::l=>by
  have:(l.map λ _=>(0:Int)).sum=0:=by
   clear u
   induction l with
   |nil=>rfl
   |cons _ l Z=>simp only[uS,jE,Z];rfl
  simp only[aI,mO l,this];rfl
theorem If (b:Nat)(x:Int):∀l:List Nat,l.Nodup->(l.map λ v=>if v=b then x else 0).sum=if b∈l then x else 0
 |[],_=>rfl
 |u::l,h=>by
  obtain⟨Y,X⟩:=qI.1 h;have V:=If b x l X;simp only[uS,jE,V,yI];by_cases c:u=b
  ·subst c;rw[if_pos rfl,if_neg Y,if_pos (.inl rfl)];omega
  ·rw[if_neg c];by_cases Z:b∈l
   ·rw[if_pos Z,if_pos (.inr Z)];omega
   ·rw[if_neg Z,if_neg (by rintro(h|h);exact c h.symm;exact Z h)];rfl
theorem wF {u b:Nat}{l:List Nat}(h:¬u=b):(u::l).idxOf b=l.idxOf b+1:=by
 have:(u==b)=false:=by simpa using h
 rw[List.idxOf_cons,this];rfl
theorem zd (a b:Nat)(x:Int):∀l:List Nat,l.Nodup->a∈l->b∈l->aI (λ u v=>if u=a/\v=b then x else 0) l=if l.idxOf a<l.idxOf b then x else 0
 |[],_,h,_=>by cases h
 |u::l,L,M,O=>by
  obtain⟨T,S⟩:=qI.1 L;have none:∀(m:List Nat),(∀w,w∈m->¬w=a)->aI (λ u v=>if u=a/\v=b then x else 0) m=0:=by
   intro m
   induction m with
   |nil=>intro _;rfl
   |cons w m Z=>
    intro h;have e:(m.map λ v=>if w=a/\v=b then x else 0)=m.map λ _=>0:=yK λ v _=>if_neg λ R=>h w xB R.1
    have z:(m.map λ _=>(0:Int)).sum=0:=by
     clear Z h e
     induction m with
     |nil=>rfl
     |cons _ m Z=>simp only[uS,jE,Z];rfl
    simp only[aI,e,z,Z λ v U=>h v (uP _ U)];rfl
  have Y:∀(m:List Nat),b∉m->aI (λ u v=>if u=a/\v=b then x else 0) m=0:=by
   intro m
   induction m with
   |nil=>intro _;rfl
   |cons w m Z=>
    intro h;have e:(m.map λ v=>if w=a/\v=b then x else 0)=m.map λ _=>0:=yK λ v U=>if_neg λ R=>h (by rw[<-R.2];exact uP _ U)
    have z:(m.map λ _=>(0:Int)).sum=0:=by
     clear Z h e
     induction m with
     |nil=>rfl
     |cons _ m Z=>simp only[uS,jE,Z];rfl
    simp only[aI,e,z,Z λ U=>h (uP _ U)];rfl
  rw[aI];by_cases c:u=a
  ·subst c;rw[none l λ w J K=>T (K▸J)];have e:(l.map λ v=>if u=u/\v=b then x else 0)=l.map λ v=>if v=b then x else 0:=yK λ v _=>xB
   rw[e,If b x l S,Cs];by_cases X:b=u
   ·subst X;rw[if_neg T,Cs,if_neg xA];rfl
   ·have V:b∈l:=by
     rcases yI.1 O with h|h
     ·exact absurd h X
     ·exact h
    have:(u::l).idxOf b=l.idxOf b+1:=wF (l:=l) (λ h=>X h.symm);rw[if_pos V,this,if_pos xA];omega
  ·have e:(l.map λ v=>if u=a/\v=b then x else 0)=l.map λ _=>0:=yK λ v _=>if_neg λ h=>c h.1
   have z:(l.map λ _=>(0:Int)).sum=0:=by
    clear e none Y T S L M O c
    induction l with
    |nil=>rfl
    |cons _ l Z=>simp only[uS,jE,Z];rfl
   have Q:a∈l:=by
    rcases yI.1 M with h|h
    ·exact absurd h.symm c
    ·exact h
   have I:(u::l).idxOf a=l.idxOf a+1:=wF (l:=l) c;rw[e,z,I];by_cases X:b=u
   ·subst X;rw[Y l T,Cs,if_neg xA];rfl
   ·have V:b∈l:=by
     rcases yI.1 O with h|h
     ·exact absurd h X
     ·exact h
    have H:(u::l).idxOf b=l.idxOf b+1:=wF (l:=l) (λ h=>X h.symm);rw[H,zd a b x l S Q V];by_cases N:l.idxOf a<l.idxOf b
    ·rw[if_pos N,if_pos xA];omega
    ·rw[if_neg N,if_neg xA];rfl
end pairs
section bound
variable (c:Nat->Nat->Int)(n:Nat)
theorem sm_bounds {f:Nat->Int}{K:Int}:∀n:Nat,(∀k,k<n->0<=f k/\f k<=K)->0<=sm f n/\sm f n<=K*n
 |0,_=>by simp[sm]
 |n+1,h=>by
  have Y:=sm_bounds n λ k Z=>h k xA
  have:=h n xA;rw[sm,qQ,zN];omega
def cJ (f:Nat)(l:List Nat)(k:Nat):Option (List Nat×Int):=(List.range k).foldl (λ s v=>b7 s (if v∈l then none else co c n f (l++[v]))) none
theorem foldB_zero (f:Nat)(l:List Nat):cJ c n f l 0=none:=rfl
theorem foldB_in {f:Nat}{l:List Nat}{k:Nat}(h:k∈l):cJ c n f l (k+1)=cJ c n f l k:=by
 rw[cJ,qE,Bc,jG,Bh,if_pos h,po];rfl
theorem foldB_out {f:Nat}{l:List Nat}{k:Nat}(h:k∉l):cJ c n f l (k+1)=b7 (cJ c n f l k) (co c n f (l++[k])):=by
 rw[cJ,qE,Bc,jG,Bh,if_neg h];rfl
theorem best_foldB (f:Nat)(l:List Nat):co c n (f+1) l=cJ c n f l n:=rfl
def dp (f:Nat)(l:List Nat)(cost rest:Int)(st:Option (List Nat×Int))(k:Nat):Option (List Nat×Int):=
 (List.range k).foldl (λ st v=>if v∈l then st else dW c n f (l++[v]) (cost+fu c n l v) (rest-ft c n l v) st) st
theorem foldE_zero (f:Nat)(l:List Nat)(cost rest:Int)(st:Option (List Nat×Int)):dp c n f l cost rest st 0=st:=rfl
theorem foldE_in {f:Nat}{l:List Nat}{cost rest:Int}{st:Option (List Nat×Int)}{k:Nat}(h:k∈l):dp c n f l cost rest st (k+1)=dp c n f l cost rest st k:=by
 rw[dp,qE,Bc,jG,Bh,if_pos h];rfl
theorem foldE_out {f:Nat}{l:List Nat}{cost rest:Int}{st:Option (List Nat×Int)}{k:Nat}(h:k∉l):
  dp c n f l cost rest st (k+1)=dW c n f (l++[k]) (cost+fu c n l k) (rest-ft c n l k) (dp c n f l cost rest st k):=by
 rw[dp,qE,Bc,jG,Bh,if_neg h];rfl
theorem ext_foldE (f:Nat)(l:List Nat)(cost rest:Int)(st:Option (List Nat×Int)):dW c n (f+1) l cost rest st=if fK st (cost+rest)then st else dp c n f l cost rest st n:=rfl
variable {c n}
def cu (c:Nat->Nat->Int)(n:Nat):Prop:=∀u v,u<n->v<n->0<=c u v/\c u v<=1000000
theorem more_bounds (h:cu c n)(l:List Nat){v:Nat}(Z:v<n)(k:Nat)(Y:k<=n):0<=sm (λ w=>if w≠v/\w∉l then c v w else 0) k/\sm (λ w=>if w≠v/\w∉l then c v w else 0) k<=1000000*k:=
 sm_bounds k λ w X=>by
  have:=h v w Z xA;split<;>omega
theorem less_bounds (h:cu c n)(l:List Nat){v:Nat}(Z:v<n)(k:Nat)(Y:k<=n):0<=sm (λ w=>if w≠v/\w∉l then min (c v w) (c w v)else 0) k/\sm (λ w=>if w≠v/\w∉l then min (c v w) (c w v)else 0) k<=1000000*k:=
 sm_bounds k λ w X=>by
  have:=h v w Z xA;have:=h w v xA Z;split<;>omega
theorem sum_bounds {f:Nat->Int}{K:Int}:∀l:List Nat,(∀k,k∈l->0<=f k/\f k<=K)->0<=(l.map f).sum/\(l.map f).sum<=K*l.length
 |[],_=>xB
 |u::l,h=>by
  have Y:=sum_bounds l λ k Z=>h k (by simp[Z])
  have:=h u xB;rw[uS,jE,uV,qQ,zN];omega
theorem sumC_bounds (Z:cu c n):∀l:List Nat,(∀v,v∈l->v<n)->l.length<=8->0<=aI c l/\aI c l<=8000000*l.length
 |[],_,_=>by simp[aI]
 |u::l,h,X=>by
  rw[uV]at X;have U:=sumC_bounds Z l (λ v V=>h v (by simp[V])) xA;have:=sum_bounds (f:=c u) (K:=1000000) l λ k Y=>Z u k (h u xB) (h k (by simp[Y]))
  rw[aI,uV,qQ,zN];omega
theorem all_len :∀(n:Nat) (l:List Nat),(∀v,v<n->v∈l)->n<=l.length
 |0,_,_=>uF _
 |n+1,l,h=>by
  have Z:=h n xA;have Y:=all_len n (l.erase n) λ v X=>(Ad xA).2 (h v xA)
  rw[kU Z]at Y;have:=zU Z;omega
theorem best_some :∀(f:Nat) (l:List Nat),Part n f l->∃s,co c n f l=some s
 |0,l,_=>⟨_,rfl⟩
 |f+1,l,h=>by
  have V:∃v,v<n/\v∉l:=by
   apply gH;intro U;have Z:∀v,v<n->v∈l:=λ v X=>gH λ Y=>U ⟨v,X,Y⟩
   have R:=all_len n l Z;have:=h.len;omega
  obtain⟨v,X,Y⟩:=V;obtain⟨s,T⟩:=best_some f (l++[v]) (h.snoc X Y);obtain⟨t,S,_⟩:=ww (B:=λ v=>if v∈l then none else co c n f (l++[v])) (List.range n) none s (.inr ⟨v,yD.2 X,by rw[if_neg Y];exact T⟩);exact⟨t,S⟩
theorem HP {st:Option (List Nat×Int)}{x:Int}(h:fK st x=true):∃s,st=some s:=by
 rcases st with _|s
 ·cases h
 ·exact⟨s,rfl⟩
theorem Mc {f:Nat}{l:List Nat}(h:Part n (f+1) l):∃v,v<n/\v∉l:=by
 apply gH;intro Y;have Z:∀v,v<n->v∈l:=λ v V=>gH λ X=>Y ⟨v,V,X⟩
 have U:=all_len n l Z;have:=h.len;omega
theorem ext_some :∀(f:Nat) (l:List Nat),Part n f l->∀(cost rest:Int) (st:Option (List Nat×Int)),∃s,dW c n f l cost rest st=some s
 |0,l,h,cost,rest,st=>by
  rw[dW];split
  ·rename_i Y;exact HP Y
  ·exact⟨_,rfl⟩
 |f+1,l,h,cost,rest,st=>by
  rw[ext_foldE];split
  ·rename_i Y;exact HP Y
  ·obtain⟨v,U,V⟩:=Mc h;have X:∀k,v<k->k<=n->∃s,dp c n f l cost rest st k=some s:=by
    intro k
    induction k with
    |zero=>intro h;omega
    |succ k T=>
     intro S R;by_cases Z:k∈l
     ·rw[foldE_in c n Z];have:v≠k:=λ e=>V (e▸Z)
      exact T xA xA
     ·rw[foldE_out c n Z];exact ext_some f (l++[k]) (h.snoc xA Z) _ _ _
   exact X n U (uI _)
theorem best_bounds (Y:cu c n)(T:n<=8){f:Nat}{l:List Nat}(h:Part n f l){s:List Nat×Int}(X:co c n f l=some s):0<=s.2/\s.2<=64000000/\s.1.length=n/\∀v,v∈s.1->v<n:=by
 obtain⟨Z,V,U⟩:=best_of c f l h s X;have S:=Z.len;have:=sumC_bounds Y s.1 Z.lt xA;refine⟨xA,xA,xA,Z.lt⟩
theorem foldB_bounds (R:cu c n)(S:n<=8){f:Nat}{l:List Nat}(h:Part n (f+1) l):∀k,k<=n->∀s,cJ c n f l k=some s->0<=s.2/\s.2<=64000000/\s.1.length=n
 |0,_,s,Z=>by rw[foldB_zero]at Z;cases Z
 |k+1,M,s,Z=>by
  have O:=foldB_bounds R S h k xA;by_cases Q:k∈l
  ·rw[foldB_in c n Q]at Z;exact O s Z
  ·rw[foldB_out c n Q]at Z;have N:=h.snoc (v:=k) xA Q;rcases U:cJ c n f l k with _|t<;>rcases T:co c n f (l++[k])with _|u<;>rw[U,T]at Z
   ·cases Z
   ·cases Z;obtain⟨Y,X,V,_⟩:=best_bounds R S N T;exact⟨Y,X,V⟩
   ·cases Z;exact O _ U
   ·obtain⟨Y,X,V,_⟩:=best_bounds R S N T;simp only[b7]at Z;split at Z<;>cases Z
    ·exact⟨Y,X,V⟩
    ·exact O _ U
end bound
def eX (Z order:List Int):Nat->List Int
 |0=>[]
 |i+1=>match order[i]? with
  |some v=>if v∈Z/\v∉order.take i then eX Z order i++[v]else eX Z order i
  |none=>eX Z order i
def je (f:Int->Nat):List Int->Nat
 |[]=>0
 |u::l=>l.countP (λ v=>decide (f v<f u))+je f l
def gx (Z order:List Int):Nat:=je (λ v=>Z.idxOf v) (eX Z order order.length)
def ix (l:List Int)(v:Int):Int:=if v∈l then(l.idxOf v:Int)else -1
def p9 (Z order:List Int)(v:Int)(k:Nat):Bool:=match order[k]? with
 |some u=>decide (ix order u=(k:Int))&&decide (ix Z v<ix Z u)
 |none=>false
def cU (Z order:List Int):Nat->Nat
 |0=>0
 |i+1=>match order[i]? with
  |some v=>if ix order v=(i:Int)/\0<=ix Z v then cU Z order i+(List.range i).countP (p9 Z order v)else cU Z order i
  |none=>cU Z order i
def pL (Z:List Int)(g:Nat->Int)(u v:Nat):Int:=if g u∈Z/\g v∈Z/\Z.idxOf (g v)<Z.idxOf (g u)then 1 else 0
theorem ze (w:Int)(c:Nat->Nat->Int):∀l:List Nat,aI (λ u v=>w*c u v) l=w*aI c l
 |[]=>by simp[aI]
 |u::l=>by
  have e:∀m:List Nat,(m.map λ v=>w*c u v).sum=w*(m.map (c u)).sum:=λ m=>by
   induction m with
   |nil=>simp
   |cons v m Z=>simp only[uS,jE,Z,zN]
  simp only[aI];rw[ze w c l,e,zN]
theorem Ih (f:Nat->Int):∀n,((List.range n).map f).sum=sm f n
 |0=>rfl
 |n+1=>by rw[qE,uO,Cb,Ih f n,sm];simp
theorem sumC_range (c:Nat->Nat->Int):∀n,aI c (List.range n)=sm (λ A=>sm (λ j=>c A (A+1+j)) (n-1-A)) n
 |0=>rfl
 |n+1=>by
  rw[qE,zf,sumC_range c n,Ih,<-uq,sm];have e:sm (λ j=>c n (n+1+j)) (n+1-1-n)=0:=by
   rw[show n+1-1-n=0 by omega];rfl
  rw[e,jM];refine sm_congr n λ A h=>?_
  rw[show n+1-1-A=(n-1-A)+1 by omega,sm,show A+1+(n-1-A)=n by omega]
end Go.Bd
namespace Go.Stb
structure Ord {α:Type}(R:α->α->Prop):Prop where
 asymm:∀a b,R a b->¬R b a
 trans:∀a b c,R a b->R b c->R a c
 total:∀a b,a≠b->R a b\/R b a
variable {α:Type}{R:α->α->Prop}
theorem TH (h:Ord R){l m:List α}(U:l.Perm m)(X:l.Pairwise R)(V:m.Pairwise R):l=m:=
 By (le:=R) (λ a b _ _ Z Y=>absurd Y (h.asymm a b Z)) X V U
theorem MP {x:α}{l m:List α}(h:Ord R)(Z:(l++m).Pairwise R)(V:∀a,a∈l->R a x)(U:∀a,a∈m->R x a):(l++x::m).Pairwise R:=by
 rw[gP]at Z|-;refine⟨Z.1,zK.2 ⟨U,Z.2.1⟩,λ a X b Y=>?_⟩;rcases yI.1 Y with rfl|Y
 ·exact V a X
 ·exact Z.2.2 a X b Y
def mA (l:List Int):Bool:=decide (l.length<=4096)&&l.all λ x=>decide (0<=x/\x<=1048576)
def aP (l:List Int):Nat:=if mA l then l.length else 0
def bW (l:List Int):Int:=if mA l then l.sum else 0
def sg (a b:Int):Int:=if a<b then -1 else if b<a then 1 else 0
def cC (a b:List Int):Int:=
 if aP a=0\/aP b=0 then sg (min (aP a) 1:Nat) (min (aP b) 1:Nat)else sg (bW a*aP b) (bW b*aP a)
theorem HK (a b:Int):sg a b=-sg b a:=by
 unfold sg;split<;>split<;>omega
theorem vP (a b:List Int):cC a b=-cC b a:=by
 unfold cC;by_cases h:aP a=0\/aP b=0
 ·rw[if_pos h,if_pos h.symm,HK]
 ·rw[if_neg h,if_neg (λ c=>h c.symm),HK]
theorem RW {a b:Int}:sg a b<0↔a<b:=by unfold sg;split<;>(try split)<;>omega
theorem vQ {a b:List Int}:cC a b<0↔(aP a=0/\0<aP b)\/(0<aP a/\0<aP b/\bW a*aP b<bW b*aP a):=by
 unfold cC;split<;>rw[RW]<;>omega
theorem C5 {a b:List Int}(h:cC a b<0):¬cC b a<0:=by have:=vP a b;omega
theorem NY {x y:Int}{n:Nat}(Z:0<n)(h:x*n<=y*n):x<=y:=Int.le_of_mul_le_mul_right h xA
theorem vR {a c:List Int}(b:List Int)(h:cC a c<0):cC a b<0\/cC b c<0:=by
 rw[vQ]at h;rw[vQ,vQ];rcases h with⟨X,Y⟩|⟨X,Y,Q⟩
 ·rcases qO (aP b)with Z|Z
  ·exact .inr (.inl ⟨Z,Y⟩)
  ·exact .inl (.inl ⟨X,Z⟩)
 ·rcases qO (aP b)with Z|Z
  ·exact .inr (.inl ⟨Z,Y⟩)
  ·by_cases V:bW a*aP b<bW b*aP a
   ·exact .inl (.inr ⟨X,Z,V⟩)
   ·by_cases U:bW b*aP c<bW c*aP b
    ·exact .inr (.inr ⟨Z,Y,U⟩)
    ·exfalso;have S:bW b*aP a*aP c<=bW a*aP b*aP c:=Aq xA xA;have R:bW c*aP b*aP a<=bW b*aP c*aP a:=Aq xA xA;have T:bW c*aP a*aP b<=bW a*aP c*aP b:=by
      have s:bW c*aP b*aP a=bW c*aP a*aP b:=by rw[Bz,Dp (aP b:Int),<-Bz]
      have O:bW b*aP c*aP a=bW b*aP a*aP c:=by rw[Bz,Dp (aP c:Int),<-Bz]
      have N:bW a*aP b*aP c=bW a*aP c*aP b:=by rw[Bz,Dp (aP b:Int),<-Bz]
      omega
     have:=NY Z T;omega
def mB (p:Nat->List Int)(j k:Nat):Prop:=cC (p j) (p k)<0\/(¬cC (p k) (p j)<0/\j<k)
theorem F5 (p:Nat->List Int):Ord (mB p) where
 asymm:=λ a b Y Z=>by
  rcases Y with Y|⟨Y,X⟩<;>rcases Z with Z|⟨Z,V⟩
  ·exact C5 Y Z
  ·exact Z Y
  ·exact Y Z
  ·omega
 trans:=λ a b c Y Z=>by
  rcases Y with Y|⟨Y,X⟩
  ·rcases vR (p c) Y with h|h
   ·exact .inl h
   ·rcases Z with Z|⟨Z,V⟩
    ·exact absurd h (C5 Z)
    ·exact absurd h Z
  ·rcases Z with Z|⟨Z,V⟩
   ·rcases vR (p a) Z with h|h
    ·exact absurd h Y
    ·exact .inl h
   ·refine .inr ⟨λ h=>?_,xA⟩;rcases vR (p b) h with h|h
    ·exact Z h
    ·exact Y h
 total:=λ a b h=>by
  by_cases Y:cC (p a) (p b)<0
  ·exact .inl (.inl Y)
  ·by_cases Z:cC (p b) (p a)<0
   ·exact .inr (.inl Z)
   ·rcases uD a b with X|X
    ·exact .inl (.inr ⟨Z,X⟩)
    ·exact .inr (.inr ⟨Y,xA⟩)
theorem OR {p:Nat->List Int}{j k:Nat}(h:j<k):cC (p k) (p j)<0↔mB p k j:=
 ⟨λ c=> .inl c,λ c=>by
  rcases c with c|⟨_,c⟩
  ·exact c
  ·omega⟩
theorem FW {a b:List Int}(h:a.Perm b):mA a=mA b:=by
 simp only[mA,h.length_eq,h.all_eq]
theorem C6 {a b:List Int}(h:a.Perm b):aP a=aP b:=by rw[aP,aP,FW h,h.length_eq]
theorem MU {a b:List Int}(h:a.Perm b):a.sum=b.sum:=by
 induction h with
 |nil=>rfl
 |cons x _ X=>rw[jE,jE,X]
 |swap x y l=>simp only[jE];omega
 |trans _ _ Z Y=>rw[Z,Y]
theorem Ib {a b:List Int}(h:a.Perm b):bW a=bW b:=by rw[bW,bW,FW h,MU h]
theorem KX {a b c d:List Int}(h:a.Perm c)(Z:b.Perm d):cC a b=cC c d:=by
 simp only[cC,C6 h,C6 Z,Ib h,Ib Z]
theorem ET {l:List Int}{c:Nat}(h:∀x,x∈l->0<=x/\x<=c):0<=l.sum/\l.sum<=((l.length*c:Nat):Int):=by
 induction l with
 |nil=>simp
 |cons x l Y=>
  have X:=Y λ y Z=>h y (uP _ Z)
  have V:=h x xB;rw[jE,uV,qN];omega
theorem vS (l:List Int):aP l<=4096:=by
 unfold aP mA;split
 ·rename_i h;simp only[uN,uG]at h;exact h.1
 ·omega
theorem Te (l:List Int):0<=bW l/\bW l<=4294967296:=by
 unfold bW;split
 ·rename_i h;simp only[mA,uN,uG,yF]at h;have Z:=ET (c:=1048576) h.2;have Y:l.length*1048576<=4096*1048576:=yR _ h.1;omega
 ·omega
theorem ua (a b:List Int):0<=bW a*aP b/\bW a*aP b<=17592186044416:=by
 have h:=Te a;have Z:=vS b;constructor
 ·exact Du h.1 xA
 ·have Y:bW a*aP b<=4294967296*(aP b:Int):=Aq h.2 xA;omega
theorem Ej {Z Y:Type}(f g:Z->List Y):∀m:List Z,(m.flatMap λ y=>f y++g y).Perm (m.flatMap f++m.flatMap g)
 |[]=>Ch _
 |y::m=>by
  rw[qM,qM,qM,qG,qG];refine List.Perm.append_left _ ?_;refine((Ej f g m).append_left (g y)).trans ?_;rw[<-qG,<-qG];exact List.perm_append_comm.append_right _
theorem Ek {Z Y X:Type}(g:Z->Y->List X)(m:List Y):∀l:List Z,(l.flatMap λ x=>m.flatMap (g x)).Perm (m.flatMap λ y=>l.flatMap λ x=>g x y)
 |[]=>xB
 |x::l=>by
  rw[qM];refine((Ek g m l).append_left _).trans ?_;refine(Ej (g x) (λ y=>l.flatMap λ x=>g x y) m).symm.trans ?_;simp only[qM];exact Ch _
variable {α:Type}{R:α->α->Prop}
theorem MZ (h:Ord R){l:List α}{x z:α}(V:l.Pairwise R)(Y:l.getLast?=some z)(Z:x∈l):x=z\/R x z:=by
 obtain⟨X,rfl⟩:∃X,l=X++[z]:=by
  rcases List.eq_nil_or_concat l with rfl|⟨X,w,rfl⟩
  ·simp at Y
  ·refine⟨X,?_⟩;rw[List.concat_eq_append]at Y|-;simp at Y;rw[Y]
 rcases yP.1 Z with Z|Z
 ·exact .inr ((gP.1 V).2.2 x Z z xB)
 ·exact .inl (uX.1 Z)
theorem Mp (h:Ord R){l:List α}{x z:α}(Y:l.Pairwise R)(X:l.head?=some z)(Z:x∈l):x=z\/R z x:=by
 cases l with
 |nil=>cases Z
 |cons w l=>
  have:w=z:=by simpa using X
  subst this;rcases yI.1 Z with rfl|Z
  ·exact .inl rfl
  ·exact .inr ((zK.1 Y).1 x Z)
theorem EX (h:Ord R){u v:List α}(s:u.Pairwise R)(O:v.Pairwise R)(X:∀x,u.getLast?=some x->∀y,v.head?=some y->R x y):(u++v).Pairwise R:=by
 refine gP.2 ⟨s,O,λ x T y S=>?_⟩;obtain⟨z,Q⟩:∃z,u.getLast?=some z:=by
  cases V:u.getLast? with
  |none=>rw[List.getLast?_eq_none_iff]at V;subst V;cases T
  |some z=>exact⟨z,rfl⟩
 obtain⟨w,U⟩:∃w,v.head?=some w:=by
  cases v with
  |nil=>cases S
  |cons w v=>exact⟨w,rfl⟩
 have Y:=X z Q w U;have Z:R x w:=by
  rcases MZ h s Q T with rfl|N
  ·exact Y
  ·exact h.trans x z w N Y
 rcases Mp h O U S with rfl|M
 ·exact Z
 ·exact h.trans x w y Z M
theorem M0 {l:List α}{k:Nat}{x:α}(Y:k<=l.length)(h:(l.take k).getLast?=some x):0<k/\l[k-1]? =some x:=by
 rcases qO k with rfl|Z
 ·simp at h
 ·refine⟨Z,?_⟩;rw[List.getLast?_eq_getElem?,yA,jF Y,qS,if_pos xA]at h;exact h
theorem Mo {l:List α}{k:Nat}{x:α}(h:(l.drop k).head?=some x):l[k]? =some x:=by
 rw[List.head?_drop]at h;exact h
theorem PF (h:Ord R){A:List α}{y:α}{i:Nat}(Q:i<=A.length)(X:A.Pairwise R)(V:∀x,0<i->A[i-1]? =some x->R x y)(U:∀x,A[i]? =some x->R y x):
  (A.take i++y::A.drop i).Pairwise R:=by
 have N:=gR i A;rw[<-N]at X;obtain⟨s,O,_⟩:=gP.1 X;have e:A.take i++y::A.drop i=(A.take i++[y])++A.drop i:=xB;rw[e];refine EX h (EX h s (zQ _ _) λ x Z z Y=>?_) O λ x Z z Y=>?_
 ·obtain⟨T,S⟩:=M0 Q Z;have:y=z:=by simpa using Y
  subst this;exact V x T S
 ·have:y=x:=by simpa using Z
  subst this;exact U z (Mo Y)
end Go.Stb
namespace Go.Cy
open Go.Bd (Part)
abbrev NA :=Nat×Nat
def Acy (l:List NA):Prop:=∃r:Nat->Nat,∀a,a∈l->a.1≠a.2->r a.1<r a.2
def InN (n:Nat)(l:List NA):Prop:=∀a,a∈l->a.1<n/\a.2<n
def Src (l:List NA)(G:List Nat)(v:Nat):Prop:=∀a,a∈l->a.2=v->a.1≠v->a.1∈G
def lB (l:List NA)(G:List Nat):Prop:=∃r:Nat->Nat,(∀v,v∈G->r v<G.length)/\∀a,a∈l->a.1≠a.2->a.2∈G->a.1∈G/\r a.1<r a.2
theorem lB.cons {l:List NA}{G:List Nat}{v:Nat}(h:lB l G)(T:v∉G)(Q:Src l G v):lB l (v::G):=by
 obtain⟨r,X,S⟩:=h;refine⟨λ u=>if u=v then G.length else r u,?_,?_⟩
 ·intro u O;dsimp only;by_cases c:u=v
  ·simp[c]
  ·rw[if_neg c];have:=X u (by simpa[c]using O);simp;omega
 ·intro a V U R;dsimp only;by_cases c:a.2=v
  ·have Z:=Q a V c (by rw[<-c];exact U);have Y:a.1≠v:=λ h=>T (h▸Z)
   refine⟨uP _ Z,?_⟩;rw[if_neg Y,if_pos c];exact X _ Z
  ·have Z:=S a V U (by simpa[c]using R);have Y:a.1≠v:=λ h=>T (h▸Z.1)
   refine⟨uP _ Z.1,?_⟩;rw[if_neg Y,if_neg c];exact Z.2
theorem lB.all {n:Nat}{l:List NA}{G:List Nat}(h:lB l G)(V:InN n l)(X:∀v,v<n->v∈G):Acy l:=by
 obtain⟨r,_,Y⟩:=h;exact⟨r,λ a Z U=>(Y a Z U (X _ (V a Z).2)).2⟩
theorem nd_le :∀{n:Nat} {G:List Nat},G.Nodup->(∀v,v∈G->v<n)->G.length<=n
 |0,[],_,_=>xB
 |0,v::_,_,h=>by have:=h v xB;omega
 |n+1,G,Z,h=>by
  have:= @nd_le n (G.erase n) (Z.erase _) λ v X=>by
   have Y:=(List.Nodup.mem_erase_iff Z).1 X;have:=h v Y.2;omega
  have:=List.length_erase_le (a:=n) (l:=G);have:G.length<=(G.erase n).length+1:=by rw[List.length_erase];split<;>omega
  omega
theorem nd_all :∀{n:Nat} {G:List Nat},G.Nodup->(∀v,v∈G->v<n)->n<=G.length->∀v,v<n->v∈G:=by
 intro n G X h U v V;refine Br λ Y=>?_
 have:= @nd_le n (v::G) (qI.2 ⟨Y,X⟩) λ u Z=>by
  rcases yI.1 Z with rfl|Z
  ·exact V
  ·exact h u Z
 simp at this;omega
def qx (n:Nat)(l:List NA)(G:List Nat):Prop:=∀v,v<n->v∉G->¬Src l G v
theorem stuck_all {n:Nat}{l:List NA}{G:List Nat}(S:InN n l)(Z:Acy l)(Q:qx n l G):∀v,v<n->v∈G:=by
 obtain⟨r,R⟩:=Z;have:∀(k v:Nat),r v<k->v<n->v∈G:=by
  intro k
  induction k with
  |zero=>intro v h;omega
  |succ k O=>
   intro v N Y;refine Br λ T=>Q v Y T ?_
   intro a Z X V;have U:=R a Z (by rw[X];exact V);rw[X]at U;exact O a.1 xA (S a Z).1
 exact λ v Y=>this (r v+1) v xA Y
def bN (l:List NA)(set:List Nat):List NA:=l.mapIdx λ i a=>if i∈set then(a.2,a.1)else a
theorem flipN_get {l:List NA}{set:List Nat}{k:Nat}{a:NA}(h:l[k]? =some a):(bN l set)[k]? =some (if k∈set then(a.2,a.1)else a):=by
 simp[bN,List.getElem?_mapIdx,h]
theorem flipN_len (l:List NA)(set:List Nat):(bN l set).length=l.length:=by simp[bN]
theorem flipN_mem {l:List NA}{set:List Nat}{b:NA}(h:b∈bN l set):∃k a,l[k]? =some a/\b=if k∈set then(a.2,a.1)else a:=by
 obtain⟨k,Y⟩:=qC.1 h;have Z:k<l.length:=by have:=(uB.1 Y).1;rw[flipN_len]at this;exact this
 refine⟨k,l[k],uT Z,?_⟩;have:=flipN_get (set:=set) (uT Z);rw[Y]at this;exact Ct this
theorem flipN_nil (l:List NA):bN l []=l:=by
 refine yX λ u=>?_
 rcases uD u l.length with h|h
 ·rw[flipN_get (uT h)];simp[h]
 ·rw[uL (by rw[flipN_len];exact h),uL h]
abbrev Asc (l:List Nat):Prop:=l.Pairwise (·<·)
theorem s7 :∀{a b:List Nat},Asc a->Asc b->(∀x,x∈a↔x∈b)->a=b
 |[],[],_,_,_=>rfl
 |[],y::b,_,_,h=>by have:=(h y).2 xB;simp at this
 |x::a,[],_,_,h=>by have:=(h x).1 xB;simp at this
 |x::a,y::b,V,U,h=>by
  rw[Asc,zK]at V U;have e:x=y:=by
   have Z:=(h x).1 xB;have Y:=(h y).2 xB;rcases yI.1 Z with Z|Z
   ·exact Z
   ·rcases yI.1 Y with Y|Y
    ·exact Y.symm
    ·have:=U.1 _ Z;have:=V.1 _ Y;omega
  subst e;rw[s7 V.2 U.2 λ z=>?_];constructor
  ·intro X;have:=V.1 _ X;rcases yI.1 ((h z).1 (uP _ X))with rfl|T
   ·omega
   ·exact T
  ·intro X;have:=U.1 _ X;rcases yI.1 ((h z).2 (uP _ X))with rfl|T
   ·omega
   ·exact T
theorem q6 (p:Nat->Bool)(m:Nat):Asc ((List.range m).filter p):=Cq _ zB
def j1 (l:List NA)(set:List Nat):Prop:=Asc set/\∀i,i∈set->∃a,l[i]? =some a/\a.1≠a.2
def Brk (l:List NA)(set:List Nat):Prop:=j1 l set/\Acy (bN l set)
def bwd (M:List Nat)(a:NA):Bool:=decide (M.idxOf a.2<M.idxOf a.1)
def mf (M:List Nat)(l:List NA)(i:Nat):Bool:=match l[i]? with
 |some a=>bwd M a
 |none=>false
def bJ (M:List Nat)(l:List NA):List Nat:=(List.range l.length).filter (mf M l)
theorem oG {M:List Nat}{l:List NA}{i:Nat}:i∈bJ M l↔∃a,l[i]? =some a/\bwd M a=true:=by
 simp only[bJ,Ay,yD,mf];constructor
 ·rintro⟨h,Z⟩;rw[uT h]at Z|-;exact⟨_,rfl,Z⟩
 ·rintro⟨a,h,Z⟩;refine⟨(uB.1 h).1,?_⟩;rw[h];exact Z
theorem CU {M:List Nat}{a:NA}(h:bwd M a=true):a.1≠a.2:=by
 intro e;simp only[bwd,uG,e]at h;omega
theorem EH {M:List Nat}{u v:Nat}(X:u∈M)(V:v∈M)(h:M.idxOf u=M.idxOf v):u=v:=by
 have Z:=Ab (jD X);have Y:=Ab (jD V);simp only[h]at Z;exact Z.symm.trans Y
theorem Part.mem {n:Nat}{M:List Nat}(h:Part n 0 M){v:Nat}(Z:v<n):v∈M:=nd_all h.nd h.lt (by have:=h.len;omega) v Z
theorem back_brk {n:Nat}{M:List Nat}{l:List NA}(U:Part n 0 M)(R:InN n l):Brk l (bJ M l):=by
 refine⟨⟨q6 _ _,λ i h=>?_⟩,λ v=>M.idxOf v,λ b S T=>?_⟩
 ·obtain⟨a,Y,X⟩:=oG.1 h;exact⟨a,Y,CU X⟩
 ·obtain⟨k,a,V,rfl⟩:=flipN_mem S;have Z:=R a (uA V);by_cases c:k∈bJ M l
  ·rw[if_pos c];obtain⟨Q,Y,X⟩:=oG.1 c;rw[V]at Y;cases Y;simpa[bwd]using X
  ·rw[if_neg c]at T|-;have X:¬(M.idxOf a.2<M.idxOf a.1):=λ h=>c (oG.2 ⟨a,V,by simpa[bwd]using h⟩)
   have O:M.idxOf a.1≠M.idxOf a.2:=λ h=>T (EH (Part.mem U Z.1) (Part.mem U Z.2) h)
   dsimp only;omega
def dx :List Nat->List Nat->Bool
 |x::a,y::b=>if x=y then dx a b else decide (x<y)
 |[],_=>false
 |_::_,[]=>false
def cR (a b:List Nat):Bool:=if a.length=b.length then dx a b else decide (a.length<b.length)
theorem lexLt_irr :∀a,dx a a=false
 |[]=>rfl
 |x::a=>by simp[dx,lexLt_irr a]
theorem Fg :∀{a b:List Nat},a.length=b.length->dx a b=false->dx b a=false->a=b
 |[],[],_,_,_=>rfl
 |[],_::_,h,_,_=>by simp at h
 |_::_,[],h,_,_=>by simp at h
 |x::a,y::b,h,Z,Y=>by
  simp only[dx]at Z Y;by_cases c:x=y
  ·subst c;simp only[if_true]at Z Y;rw[Fg (by simpa using h) Z Y]
  ·rw[if_neg c]at Z;rw[if_neg (Ne.symm c)]at Y;simp at Z Y;omega
theorem Fe {a b:List Nat}(h:cR a b=false)(Z:cR b a=false):a=b:=by
 simp only[cR]at h Z;by_cases c:a.length=b.length
 ·rw[if_pos c]at h;rw[if_pos c.symm]at Z;exact Fg c h Z
 ·rw[if_neg c]at h;rw[if_neg (Ne.symm c)]at Z;simp at h Z;omega
theorem wY :∀{a b:List Nat},dx a b=true->dx b a=false
 |[],b,h=>by cases b<;>simp[dx]at h
 |_::_,[],h=>by simp[dx]at h
 |x::a,y::b,h=>by
  simp only[dx]at h|-;by_cases c:x=y
  ·subst c;simp only[if_true]at h|-;exact wY h
  ·rw[if_neg c]at h;rw[if_neg (Ne.symm c)];simp at h|-;omega
theorem Np {a b:List Nat}(h:cR a b=true):cR b a=false:=by
 simp only[cR]at h|-;by_cases c:a.length=b.length
 ·rw[if_pos c]at h;rw[if_pos c.symm];exact wY h
 ·rw[if_neg c]at h;rw[if_neg (Ne.symm c)];simp at h|-;omega
theorem Fh :∀{a b c:List Nat},dx a b=true->dx b c=true->dx a c=true
 |[],b,_,h,_=>by cases b<;>simp[dx]at h
 |_::_,[],_,h,_=>by simp[dx]at h
 |_::_,_::_,[],_,h=>by simp[dx]at h
 |x::a,y::b,z::c,Y,Z=>by
  simp only[dx]at Y Z|-;by_cases V:x=y
  ·subst V;rw[if_pos rfl]at Y;by_cases X:x=z
   ·subst X;rw[if_pos rfl]at Z|-;exact Fh Y Z
   ·rw[if_neg X]at Z|-;exact Z
  ·rw[if_neg V]at Y;by_cases X:y=z
   ·subst X;rw[if_neg V];exact Y
   ·rw[if_neg X]at Z;simp at Y Z;rw[if_neg xA];simp;omega
theorem Nr {a b c:List Nat}(Y:cR a b=true)(h:cR b c=true):cR a c=true:=by
 simp only[cR]at*;by_cases X:a.length=b.length
 ·rw[if_pos X]at Y;by_cases Z:b.length=c.length
  ·rw[if_pos Z]at h;rw[if_pos (X.trans Z)];exact Fh Y h
  ·rw[if_neg Z]at h;rw[if_neg xA];simp at h|-;omega
 ·rw[if_neg X]at Y;by_cases Z:b.length=c.length
  ·rw[if_neg xA];simp at Y|-;omega
  ·rw[if_neg Z]at h;simp at Y h;rw[if_neg xA];simp;omega
theorem Fi :∀{a b:List Nat} {j:Nat},Asc a->Asc b->a.length=b.length->j∈a->j∉b->(∀i,i<j->(i∈a↔i∈b))->dx a b=true
 |[],_,_,_,_,_,h,_,_=>by simp at h
 |_::_,[],_,_,_,h,_,_,_=>by simp at h
 |x::a,y::b,j,X,T,O,Z,S,R=>by
  rw[Asc,zK]at X T;simp only[dx];by_cases c:x=y
  ·subst c;rw[if_pos rfl];rcases yI.1 Z with rfl|Z
   ·exact(S xB).elim
   ·refine Fi X.2 T.2 (by simpa using O) Z (λ h=>S (uP _ h)) λ i Q=>?_
    have V:=R i Q;constructor
    ·intro Y;have:=X.1 _ Y;rcases yI.1 (V.1 (uP _ Y))with rfl|U
     ·omega
     ·exact U
    ·intro Y;have:=T.1 _ Y;rcases yI.1 (V.2 (uP _ Y))with rfl|U
     ·omega
     ·exact U
  ·rw[if_neg c];refine uZ (Br λ h=>?_);have M:y<x:=xA;have N:x<=j:=by
    rcases yI.1 Z with rfl|Z
    ·exact uI _
    ·have:=X.1 _ Z;omega
   rcases yI.1 ((R y xA).2 xB)with e|V
   ·omega
   ·have:=X.1 _ V;omega
end Go.Cy
