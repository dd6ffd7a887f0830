/- The crossings of a layer in another order (no program in sight). -/
import Derived.Test.YtjjbhjnpeenbkaaGreatDoorCf
import Derived.Test.YtjjbhjnpeenbkaaGreatDoorG
import Derived.Test.YtjjbhjnpeenbkaaGreatDoorPSStep
set_option linter.unusedSimpArgs false
set_option linter.unusedVariables false
set_option maxHeartbeats 16000000
namespace Go.Proofs.YtjjbhjnpeenbkaaGreatDoor
open Go Go.PS Go.Proofs
open Go.Bd (aI Part mr)
def aW (y:List Int)(o:List Nat):List Int:=o.map λ k=>(y[k]?).getD 0
theorem pX (y:List Int)(o:List Nat):(aW y o).length=o.length:=by simp[aW]
theorem Gb {y:List Int}{o:List Nat}{p:Nat}{v:Int}(X:p∈o)(h:y[p]? =some v):(aW y o)[o.idxOf p]? =some v:=by
 have Y:=List.idxOf_lt_length_iff.2 X;have Z:o[o.idxOf p]? =some p:=by
  rw[uT Y,Ab]
 rw[aW,uJ,Z,qB,h];rfl
theorem Gc {y:List Int}{o:List Nat}(h:Part y.length 0 o){v:Int}:v∈aW y o↔v∈y:=by
 constructor
 ·intro Y;obtain⟨k,V,rfl⟩:=uR.1 Y;have:=h.lt k V;rw[uT this];exact kJ this
 ·intro Y;obtain⟨p,X⟩:=qA Y;have Z:=(uB.1 X).1;have:=Gb (mr y.length h.nd h.lt (by have:=h.len;omega) p Z) X;exact uA this
theorem Gd {y:List Int}{o:List Nat}(S:y.Nodup)(h:Part y.length 0 o):(aW y o).Nodup:=by
 refine List.pairwise_map.2 (h.nd.imp_of_mem λ{a b} U T Z Y=>Z ?_);have X:=h.lt a U;have V:=h.lt b T;rw[uT X,uT V]at Y;exact(List.getElem_inj S).1 Y
theorem Ge {y:List Int}{o:List Nat}(V:y.Nodup)(h:Part y.length 0 o)(v:Int):placeF (aW y o) v=if 0<=placeF y v then((o.idxOf (placeF y v).toNat:Nat):Int)else -1:=by
 by_cases X:v∈y
 ·obtain⟨p,Y⟩:=qA X;have Z:=(uB.1 Y).1;rw[nH (Gd V h) (Gb (mr y.length h.nd h.lt (by have:=h.len;omega) p Z) Y),nH V Y,if_pos xA,uK]
 ·rw[oP (λ U=>X ((Gc h).1 U)),oP X,if_neg xA]
theorem O4 {y z:List Int}{o:List Nat}(X:y.Nodup)(h:Part y.length 0 o)(Y:List Arc):bf (aW y o) z Y=(bf y z Y).map λ e=>(((o.idxOf e.1.toNat:Nat):Int),e.2):=by
 rw[bf,bf,List.map_flatMap]
 congr 1
 funext x
 rw[jk,jk,Ge X h];by_cases c:0<=placeF y x.1
 ·rw[if_pos c];by_cases Z:0<=placeF z x.2
  ·rw[if_pos ⟨xA,Z⟩,if_pos ⟨c,Z⟩];rfl
  ·rw[if_neg (λ h=>Z h.2),if_neg (λ h=>Z h.2)];rfl
 ·rw[if_neg c,if_neg (λ h=>xA),if_neg (λ h=>c h.1)];rfl
theorem O3 {y z:List Int}{o:List Nat}(X:z.Nodup)(h:Part z.length 0 o)(Y:List Arc):bf y (aW z o) Y=(bf y z Y).map λ e=>(e.1,((o.idxOf e.2.toNat:Nat):Int)):=by
 rw[bf,bf,List.map_flatMap]
 congr 1
 funext x
 rw[jk,jk,Ge X h];by_cases c:0<=placeF y x.1
 ·by_cases Z:0<=placeF z x.2
  ·rw[if_pos Z,if_pos ⟨c,xA⟩,if_pos ⟨c,Z⟩];rfl
  ·rw[if_neg Z,if_neg (λ h=>xA),if_neg (λ h=>Z h.2)];rfl
 ·rw[if_neg (λ h=>c h.1),if_neg (λ h=>c h.1)];rfl
theorem Near.perm_up {a V:Lv}{i:Nat}{y z:List Int}{o:List Nat}(h:Near a i y z)(R:Near V i (aW y o) z)(U:V.2.2.1=a.2.2.1)(Z:Part y.length 0 o):
  du V i=aI (λ u v=>au (bb a i ((i:Int)+1)) u v) o:=by
 have N:y.Nodup:=(jO.1 (lz h.ok)).1 y (uA h.hy);have X:=h.ins;rw[R.between,Near.cr,U,O4 N Z,vh];rw[H7 (own:=λ e=>e.1) (oth:=λ e=>e.2) (P:=bf y z a.2.2.1) Z.nd (λ e S=>⟨(X e S).1,mr y.length Z.nd Z.lt (by have:=Z.len;omega) _ (by have:=X e S;omega)⟩)
  (λ u Q v O T=>by rw[h.cellD (Z.lt u Q) (Z.lt v O),if_neg T])]
 exact mc λ x _ w _=>nf ⟨λ Y=>⟨by have:=Y.1;dsimp only at this;omega,Y.2⟩,λ Y=>⟨by have:=Y.1;dsimp only;omega,Y.2⟩⟩
theorem Near.perm_dn {a V:Lv}{i:Nat}{y z:List Int}{o:List Nat}(h:Near a i y z)(R:Near V i y (aW z o))(U:V.2.2.1=a.2.2.1)(Z:Part z.length 0 o):
  du V i=aI (λ u v=>au (bb a ((i:Int)+1) i) u v) o:=by
 have N:z.Nodup:=(jO.1 (lz h.ok)).1 z (uA h.hz);have X:=h.ins;rw[R.between,Near.cr,U,O3 N Z,vh,AX];rw[H7 (own:=λ e=>e.2) (oth:=λ e=>e.1) (P:=bf y z a.2.2.1) Z.nd (λ e S=>⟨(X e S).2.2.1,mr z.length Z.nd Z.lt (by have:=Z.len;omega) _ (by have:=X e S;omega)⟩)
  (λ u Q v O T=>by rw[h.cellU (Z.lt u Q) (Z.lt v O),if_neg T])]
 exact mc λ x _ w _=>nf ⟨λ Y=>⟨by have:=Y.2;dsimp only at this;omega,Y.1⟩,λ Y=>⟨Y.2,by have:=Y.1;dsimp only;omega⟩⟩
end Go.Proofs.YtjjbhjnpeenbkaaGreatDoor
namespace Go.Proofs.YtjjbhjnpeenbkaaGreatDoor
open Go Go.PS Go.Proofs
open Go.Bd (aI mN mO Part mr)
def dG (a:Lv)(i:Nat)(y:List Int):Lv:=(a.1,a.2.1.set i y,a.2.2.1,a.2.2.2)
theorem GU (n:Nat):Part n 0 (List.range n):=⟨zI,λ v h=>yD.1 h,xB⟩
theorem Pa (y:List Int):aW y (List.range y.length)=y:=by
 refine yX λ k=>?_
 rw[aW,uJ];by_cases h:k<y.length
 ·rw[yZ h,qB,uT h];rfl
 ·rw[uL (by simpa using h),uL xA];rfl
def ol (a:Lv)(i:Nat)(u v:Nat):Int:=au (bb a i ((i:Int)-1)) u v+au (bb a i ((i:Int)+1)) u v
theorem Ic {f g:Nat->Int}(i:Nat)(h:∀j,j≠i->j+1≠i->f j=g j):∀n,a8 f n=a8 g n+(if i<n then f i-g i else 0)+(if 0<i/\i<=n then f (i-1)-g (i-1)else 0)
 |0=>by simp only[a8];rw[if_neg xA,if_neg xA];rfl
 |n+1=>by
  rw[a8,a8,Ic i h n];by_cases Z:n=i
  ·subst Z
   (repeat' split)<;>omega
  ·by_cases Y:n+1=i
   ·subst Y;simp only[Av]
    (repeat' split)<;>omega
   ·rw[h n Z Y]
    (repeat' split)<;>omega
theorem ta {a:Lv}{j:Nat}(h:¬j+1<a.2.1.length):du a j=0:=by
 rw[du,if_pos (by simp only[pU,uG];omega)]
theorem PG {a:Lv}{i:Nat}{y:List Int}{o:List Nat}(K:aH a=true)(T:aH (dG a i (aW y o))=true)(J:a.2.1[i]? =some y)(H:Part y.length 0 o):
  bG (dG a i (aW y o))-bG a=aI (ol a i) o-aI (ol a i) (List.range y.length):=by
 have S:=(uB.1 J).1;have X:(dG a i (aW y o)).2.1.length=a.2.1.length:=yJ;have Z:∀j,j≠i->(dG a i (aW y o)).2.1[j]? =a.2.1[j]? :=λ j B=>jT (Ne.symm B)
 have Y:(dG a i (aW y o)).2.1[i]? =some (aW y o):=jC S;have Q:=GU y.length;have R:=Pa y
 have C:∀j:Nat,j≠i->j+1≠i->du (dG a i (aW y o)) j=du a j:=λ j G F=>by
  by_cases c:j+1<a.2.1.length
  ·obtain⟨p,q,h⟩:=pS K c;have V:Near (dG a i (aW y o)) j p q:=⟨T,(Z j G).trans h.hy,(Z (j+1) F).trans h.hz⟩;rw[h.between,V.between];rfl
  ·rw[ta c,ta (by rw[X];exact c)]
 have L:du (dG a i (aW y o)) i-du a i=aI (au (bb a i ((i:Int)+1))) o-aI (au (bb a i ((i:Int)+1))) (List.range y.length):=by
  by_cases c:i+1<a.2.1.length
  ·obtain⟨p,z,h⟩:=pS K c;obtain rfl:p=y:=by have:=h.hy;rw[J]at this;cases this;rfl
   have V:Near (dG a i (aW p o)) i (aW p o) z:=⟨T,Y,(Z (i+1) xA).trans h.hz⟩;have U:Near a i (aW p (List.range p.length)) z:=by rw[R];exact h
   rw[h.perm_up V rfl H,h.perm_up U rfl Q]
  ·have M:bb a i ((i:Int)+1)=[]:=by
    rw[bb,if_neg];intro N;simp only[dC,uN,uG]at N;omega
   have I:au (bb a i ((i:Int)+1))=λ _ _=>0:=by funext u v;rw[M];rfl
   rw[I,mO,mO,ta c,ta (by rw[X];exact c)]
 have O:(if 0<i/\i<=a.2.1.length then du (dG a i (aW y o)) ((i-1:Nat):Int)-du a ((i-1:Nat):Int)else 0)=
   aI (au (bb a i ((i:Int)-1))) o-aI (au (bb a i ((i:Int)-1))) (List.range y.length):=by
  by_cases c:0<i
  ·obtain⟨k,rfl⟩:∃k,i=k+1:=⟨i-1,xA⟩;rw[if_pos ⟨c,xA⟩,Av,show((k+1:Nat):Int)-1=(k:Int) by omega,show((k+1:Nat):Int)=(k:Int)+1 by omega];obtain⟨x,p,h⟩:=pS K (i:=k) xA;obtain rfl:p=y:=by have:=h.hz;rw[J]at this;cases this;rfl
   have V:Near (dG a (k+1) (aW p o)) k x (aW p o):=⟨T,(Z k xA).trans h.hy,Y⟩;have U:Near a k x (aW p (List.range p.length)):=by rw[R];exact h
   rw[h.perm_dn V rfl H,h.perm_dn U rfl Q]
  ·obtain rfl:i=0:=xA;have M:bb a ((0:Nat):Int) (((0:Nat):Int)-1)=[]:=by
    rw[bb,if_neg];intro N;simp only[dC,uN,uG]at N;omega
   have I:au (bb a ((0:Nat):Int) (((0:Nat):Int)-1))=λ _ _=>0:=by funext u v;rw[M];rfl
   rw[I,mO,mO,if_neg xA];rfl
 have E:ol a i=λ u v=>au (bb a i ((i:Int)-1)) u v+au (bb a i ((i:Int)+1)) u v:=rfl
 rw[bG,bG,X,Ic i C a.2.1.length,if_pos S,O,L,E,mN,mN];omega
end Go.Proofs.YtjjbhjnpeenbkaaGreatDoor
namespace Go.Proofs.YtjjbhjnpeenbkaaGreatDoor
open Go Go.PS Go.Proofs
set_option maxRecDepth 100000
theorem fR {n:Nat}{cs:List D}(h:dc Tryz.prog (n+1) 3 cs):∃m:Int,cs=[.int m]:=by
 have Z:Tryz.prog.underlying 3=some (.int .i64):=xD;simp only[dc,Z]at h;obtain⟨m,rfl,_⟩:=h;exact⟨m,rfl⟩
end Go.Proofs.YtjjbhjnpeenbkaaGreatDoor
