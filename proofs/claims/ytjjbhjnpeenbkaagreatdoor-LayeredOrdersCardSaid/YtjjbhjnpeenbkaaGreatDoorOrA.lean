/- Ordering: what it computes (no program in sight). -/
import Derived.Test.YtjjbhjnpeenbkaaGreatDoorStE
set_option linter.unusedSimpArgs false
set_option linter.unusedVariables false
set_option maxHeartbeats 16000000
namespace Go.Proofs.YtjjbhjnpeenbkaaGreatDoor
open Go Go.PS Go.Proofs
open Go.Bd (aI Part pL)
def orM (a:Lv)(i:Nat):List (List Int):=stM a [] (aF a.2.1 i) 0 i
theorem xH (a:Lv)(i:Nat):(orM a i).length=(aF a.2.1 i).length:=uu ..
theorem F2 (a:Lv)(i:Nat){o:List Nat}(h:Part (aF a.2.1 i).length 0 o):aI (au (orM a i)) o=aI (ol a i) o:=by
 rw[orM,SU _ _ _ _ _ h];omega
theorem F1 {a:Lv}{i:Nat}(h:a.2.2.1.length<=700)(Z:¬8<(aF a.2.1 i).length):okM (orM a i)=true:=SS xC h xA
theorem rW (a:Lv)(i:Nat):Part (aF a.2.1 i).length 0 (df (orM a i)).1:=by
 have:=(B9 (orM a i)).1;rw[xH]at this;exact this
def mY (a:Lv)(i:Nat):Bool:=decide ((df (orM a i)).2<aI (au (orM a i)) (List.range (aF a.2.1 i).length))
def cY (a:Lv)(i:Nat):List Nat×Bool:=if 8<(aF a.2.1 i).length then([],false)else((df (orM a i)).1,mY a i)
def i6 (a:Lv)(i:Nat):Lv:=dG a i (aW (aF a.2.1 i) (df (orM a i)).1)
theorem q9 {a:Lv}{i:Nat}(h:(cY a i).2=true):¬8<(aF a.2.1 i).length/\mY a i=true:=by
 rw[cY]at h;split at h
 ·cases h
 ·exact⟨by assumption,h⟩
theorem Kin.arr {a b:Lv}(h:Kin a b){i:Nat}(Z:i<a.2.1.length){o:List Nat}(Y:Part (aF b.2.1 i).length 0 o):Kin a (dG b i (aW (aF b.2.1 i) o)):=
 h.put (h.lay Z) (xQ (nk h.ok (h.lay Z)) Y)
theorem JT {a b:Lv}(h:Kin a b){i:Nat}(Y:i<a.2.1.length){o:List Nat}(Z:Part (aF b.2.1 i).length 0 o):
  bG (dG b i (aW (aF b.2.1 i) o))-bG b=aI (au (orM b i)) o-aI (au (orM b i)) (List.range (aF b.2.1 i).length):=by
 rw[F2 _ _ Z,F2 _ _ (GU _)];exact PG h.ok (h.arr Y Z).ok (h.lay Y) Z
theorem s9 {a b:Lv}(h:Kin a b){i:Nat}(Z:i<a.2.1.length):Kin a (i6 b i):=h.arr Z (rW b i)
theorem CA {a b:Lv}(h:Kin a b){i:Nat}(X:i<a.2.1.length)(Y:mY b i=true):bG (i6 b i)<bG b:=by
 have V:=JT h X (rW b i);have Z:=(B9 (orM b i)).2;rw[mY,uG,Z]at Y;rw[i6];omega
theorem Tr (a:Lv):0<=bG a:=by
 have:=qh (f:=λ i=>du a i) (c:=360000000000) a.2.1.length λ i _=>AF a i
 exact this.1
def cU :Nat->Lv->Nat->Lv
 |0,b,_=>b
 |f+1,b,i=>if i<b.2.1.length then(if(cY b i).2 then cU f (i6 b i) 0 else cU f b (i+1))else b
def fJ (b:Lv)(i:Nat):Nat:=(bG b).toNat*(b.2.1.length+1)+(b.2.1.length-i)
def dt (a:Lv):Lv:=cU (fJ a 0) a 0
theorem xl {b:Lv}{i:Nat}(h:i<b.2.1.length):fJ b (i+1)<fJ b i:=by
 simp only[fJ];omega
theorem xj {a b:Lv}(h:Kin a b){i:Nat}(Z:i<a.2.1.length)(V:mY b i=true):fJ (i6 b i) 0<fJ b i:=by
 have U:=CA h Z V;have T:=Tr (i6 b i);have Y:(i6 b i).2.1.length=b.2.1.length:=by rw[(s9 h Z).len,h.len]
 have S:=h.len;rw[fJ,fJ,Y];have X:((bG (i6 b i)).toNat+1)*(b.2.1.length+1)<=(bG b).toNat*(b.2.1.length+1):=yR _ xA;rw[qN]at X;omega
theorem yh {f:Nat}{b:Lv}{i:Nat}(h:¬i<b.2.1.length):cU f b i=b:=by
 cases f with
 |zero=>rfl
 |succ f=>rw[cU,if_neg h]
theorem uf {a:Lv}:∀(f:Nat) (b:Lv) (i:Nat),Kin a b->fJ b i<=f->i<=a.2.1.length->(∀j,j<i->(cY b j).2=false)->
  Kin a (cU f b i)/\bG (cU f b i)<=bG b/\∀j,j<a.2.1.length->(cY (cU f b i) j).2=false
 |0,b,i,h,S,N,V=>by
  have O:=h.len;simp only[fJ]at S;rw[cU];exact⟨h,qR _,λ j Z=>V j xA⟩
 |f+1,b,i,h,S,N,V=>by
  have O:=h.len;by_cases Z:i<b.2.1.length
  ·rw[cU,if_pos Z];rcases U:(cY b i).2 with _|_
   ·rw[if_neg xC];refine uf f b (i+1) h (by have:=xl Z;omega) xA λ j X=>?_
    rcases uD j i with c|c
    ·exact V j c
    ·obtain rfl:j=i:=xA;exact U
   ·rw[if_pos rfl];have Y:=(q9 U).2;have L:=xj h xA Y;have K:=CA h xA Y;obtain⟨R,M,Q⟩:=uf f (i6 b i) 0 (s9 h xA) xA (uF _) (λ j X=>absurd X (zF j));exact⟨R,xA,Q⟩
  ·rw[yh Z];exact⟨h,qR _,λ j T=>V j xA⟩
theorem GY {a:Lv}(Z:aH a=true)(Y:wide a):Kin a (dt a)/\bG (dt a)<=bG a/\∀j,j<a.2.1.length->(cY (dt a) j).2=false:=
 uf _ a 0 (Kin.refl Z Y) (uI _) (uF _) (λ j h=>absurd h (zF j))
end Go.Proofs.YtjjbhjnpeenbkaaGreatDoor
