/- Contracts of searches in lists, degrees and lists of chosen numbers. -/
import Derived.Test.YtjjbhjnpeenbkaaGreatDoorA
set_option linter.unusedSimpArgs false
set_option linter.unusedVariables false
set_option maxHeartbeats 16000000
namespace Go.Proofs.YtjjbhjnpeenbkaaGreatDoor.Cyc
open Go Go.PS Go.Proofs
set_option maxRecDepth 100000
attribute [local irreducible] ao wpG ah
def kd (l:List Int)(n:Int):Bool:=l.any (λ x=>decide (x=n))
def placeF (l:List Int)(n:Int):Int:=eh (l.findIdx? (λ x=>decide (x=n)))
theorem tA (l:List Int)(n:Int):ah Tryz.prog 170 [aj l, .int n] (.int (placeF l n)):=by
 refine kE Tryz.func170 ?_;intro Y B X N;have Q:=bI 0 Y rfl;rw[uC]at Q;refine ac kO aa aa ?_;refine aq (λ(k:Nat)=>k<=l.length/\∀(j:Nat) y,j<k->l[j]? =some y->(decide (y=n))=false) (λ k=>[(0, .d (aj l)),(1, .int n),(7, .int l.length),(8, .int k)]) (λ k=>[]) (λ k=>l.length-k) 0 ?_ ?_ ?_
 ·exact⟨uF _,λ j y h=>xA⟩
 ·exact kN aa []
 ·rintro k ⟨O,Z⟩;rcases uD k l.length with V|R
  ·obtain⟨p,U⟩:=ak V;refine kw kO (ae U) aa ?_
   repeat' first|exact True.intro|refine Bn.mk ?_ ?_|intro T
   ·refine ap ?_;rw[placeF,jc U (by simpa using T.symm) Z];rfl
   ·refine⟨k+1,?_,eL [] _ _ (by refine⟨?_,?_⟩<;>(repeat' first|exact fmn|refine fmc ⟨(by first|rfl|(simp(disch:=omega) only[go_sem,simprocAttr,inL];first|done|omega|(congr 1;done))),?_⟩);done),?_⟩
    ·exact⟨xA,b9 Z U (by simpa using λ h=>T h.symm)⟩
    ·omega
  ·refine ac kO aa aa ?_;refine ap ?_;rw[placeF,ka (λ j y S=>Z j y (by have:=(uB.1 S).1;omega) S)];rfl
theorem K5 (l:List Int)(n:Int):ah Tryz.prog 224 [aj l, .int n] (.bool (kd l n)):=by
 refine kE Tryz.func224 ?_;intro h B X Z;refine ac kO aa (ae (tA l n)) ?_;exact ay (oB _ l)
def pg (l:List Arc)(a:Arc):Option Nat:=l.findIdx? (λ x=>decide (x=a))
theorem QQ (l:List Int)(i:Nat)(x:Int)(Y:l[i]? =some x):ah Tryz.prog 242 [aj l, .int i] (.bool (kd (l.take i) x)):=by
 have U:=(uB.1 Y).1;refine kE Tryz.func242 ?_;intro h B X T;have V:=bI 0 h rfl;rw[uC]at V;have Z:=K5 (l.take i) x;simp only[aj,Ai]at Z;refine ac kO (ae Y) (ae Z) ?_;exact ay rfl
def mW (l:List Int)(n:Int)(k:Nat):Int:=match l[k]? with
 |some x=>if x<0\/n<=x then 3 else if kd (l.take k) x then 6 else 0
 |none=>0
def mz (l:List Int)(n:Int):Int:=iu (mW l n) l.length
theorem Nv (l:List Int)(n:Int):ah Tryz.prog 209 [aj l, .int n] (.int (mz l n)):=by
 refine kE Tryz.func209 ?_;intro V B X O;have T:=bI 0 V rfl;rw[uC]at T;refine ac kO aa aa ?_;refine aq (λ(k:Nat)=>k<=l.length/\iu (mW l n) k=0) (λ k=>[(0, .d (aj l)),(1, .int n),(7, .d (aj l)),(8, .int l.length),(9, .int k)]) (λ k=>[]) (λ k=>l.length-k) 0 ?_ ?_ ?_
 ·exact⟨uF _,rfl⟩
 ·exact kN aa []
 ·rintro k ⟨Q,h⟩;rcases uD k l.length with Z|U
  ·obtain⟨p,Y⟩:=ak Z;have S:=QQ l k p Y;refine kw kO (ae Y) (ae S) ?_
   repeat' first|exact True.intro|refine Bn.mk ?_ ?_|intro R
   all_goals try
    refine ap ?_
    first
     |exact(Eb Z h (by simp only[mW,Y];rw[if_pos xA]) xC).symm
     |exact(Eb Z h (by simp only[mW,Y];rw[if_neg xA,if_pos (by assumption)]) xC).symm
   ·refine⟨k+1,?_,eL [] _ _ (by refine⟨?_,?_⟩<;>(repeat' first|exact fmn|refine fmc ⟨(by first|rfl|(simp(disch:=omega) only[go_sem,simprocAttr,inL];first|done|omega|(congr 1;done))),?_⟩);done),?_⟩
    ·refine⟨xA,Ec h ?_⟩;simp only[mW,Y];rw[if_neg xA,if_neg (by simp[*])]
    ·omega
  ·refine ac kO aa aa ?_;refine ap ?_;have:k=l.length:=xA;rw[mz,<-this,h]
end Go.Proofs.YtjjbhjnpeenbkaaGreatDoor.Cyc
