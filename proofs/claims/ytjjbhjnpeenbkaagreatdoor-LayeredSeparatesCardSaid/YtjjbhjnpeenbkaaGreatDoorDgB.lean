/- Contracts of searches in lists, degrees and lists of chosen numbers. -/
import Derived.Test.YtjjbhjnpeenbkaaGreatDoorA
set_option linter.unusedSimpArgs false
set_option linter.unusedVariables false
set_option maxHeartbeats 16000000
namespace Go.Proofs.YtjjbhjnpeenbkaaGreatDoor.Cyc
open Go Go.PS Go.Proofs
set_option maxRecDepth 100000
attribute [local irreducible] Zad wpG Zaa
def Ze7 (l:List Int)(n:Int):Bool:=l.any (λ x=>decide (x=n))
def placeF (l:List Int)(n:Int):Int:=ZcU (l.findIdx? (λ x=>decide (x=n)))
theorem ZlA (l:List Int)(n:Int):Zaa Tryz.prog 170 [Zab l, .int n] (.int (placeF l n)):=by
 refine kE Tryz.func170 ?_;intro hat B X w0;have hl:=ZaJ 0 hat rfl;rw[uC]at hl;refine kw1 kO kc0 kc0 ?_;refine Zaf (λ(k:Nat)=>k<=l.length/\∀(j:Nat) y,j<k->l[j]? =some y->(decide (y=n))=false) (λ k=>[(0, .d (Zab l)),(1, .int n),(7, .int l.length),(8, .int k)]) (λ k=>[]) (λ k=>l.length-k) 0 ?_ ?_ ?_
 ·exact⟨uH _,λ j y h=>by omega⟩
 ·exact kN kc0 []
 ·rintro k ⟨hk,hinv⟩;rcases uE k l.length with hlt|hge
  ·obtain⟨p,hp⟩:=Zac hlt;refine kw kO (kc1 hp) kc0 ?_
   repeat' first|exact True.intro|refine Bn.mk ?_ ?_|intro hc
   ·refine Zai ?_;rw[placeF,Zex hp (by simpa using hc.symm) hinv];rfl
   ·refine⟨k+1,?_,eL [] _ _ (by refine⟨?_,?_⟩<;>(repeat' first|exact fmn|refine fmc ⟨(by first|rfl|(simp(disch:=omega) only[go_sem,simprocAttr,inL];first|done|omega|(congr 1;done))),?_⟩);done),?_⟩
    ·exact⟨by omega,Zbr hinv hp (by simpa using λ h=>hc h.symm)⟩
    ·omega
  ·refine kw1 kO kc0 kc0 ?_;refine Zai ?_;rw[placeF,Ze3 (λ j y hy=>hinv j y (by have:=(uB.1 hy).1;omega) hy)];rfl
theorem ZxN (l:List Int)(n:Int):Zaa Tryz.prog 224 [Zab l, .int n] (.bool (Ze7 l n)):=by
 refine kE Tryz.func224 ?_;intro hat B X w0;refine kw1 kO kc0 (kc1 (ZlA l n)) ?_;exact Zah (Zg3 _ l)
def ZhL (l:List Arc)(a:Arc):Option Nat:=l.findIdx? (λ x=>decide (x=a))
theorem ZCL (l:List Int)(i:Nat)(x:Int)(hx:l[i]? =some x):Zaa Tryz.prog 242 [Zab l, .int i] (.bool (Ze7 (l.take i) x)):=by
 have hi:=(uB.1 hx).1;refine kE Tryz.func242 ?_;intro hat B X w0;have hl:=ZaJ 0 hat rfl;rw[uC]at hl;have hr:=ZxN (l.take i) x;simp only[Zab,Ap]at hr;refine kw1 kO (kc1 hx) (kc1 hr) ?_;exact Zah rfl
def ZgU (l:List Int)(n:Int)(k:Nat):Int:=match l[k]? with
 |some x=>if x<0\/n<=x then 3 else if Ze7 (l.take k) x then 6 else 0
 |none=>0
def Zgx (l:List Int)(n:Int):Int:=Zd9 (ZgU l n) l.length
theorem Zz4 (l:List Int)(n:Int):Zaa Tryz.prog 209 [Zab l, .int n] (.int (Zgx l n)):=by
 refine kE Tryz.func209 ?_;intro hat B X w0;have hl:=ZaJ 0 hat rfl;rw[uC]at hl;refine kw1 kO kc0 kc0 ?_;refine Zaf (λ(k:Nat)=>k<=l.length/\Zd9 (ZgU l n) k=0) (λ k=>[(0, .d (Zab l)),(1, .int n),(7, .d (Zab l)),(8, .int l.length),(9, .int k)]) (λ k=>[]) (λ k=>l.length-k) 0 ?_ ?_ ?_
 ·exact⟨uH _,rfl⟩
 ·exact kN kc0 []
 ·rintro k ⟨hk,hinv⟩;rcases uE k l.length with hlt|hge
  ·obtain⟨p,hp⟩:=Zac hlt;have hr:=ZCL l k p hp;refine kw kO (kc1 hp) (kc1 hr) ?_
   repeat' first|exact True.intro|refine Bn.mk ?_ ?_|intro hc
   all_goals try
    refine Zai ?_
    first
     |exact(Zro hlt hinv (by simp only[ZgU,hp];rw[if_pos (by omega)]) (by decide)).symm
     |exact(Zro hlt hinv (by simp only[ZgU,hp];rw[if_neg (by omega),if_pos (by assumption)]) (by decide)).symm
   ·refine⟨k+1,?_,eL [] _ _ (by refine⟨?_,?_⟩<;>(repeat' first|exact fmn|refine fmc ⟨(by first|rfl|(simp(disch:=omega) only[go_sem,simprocAttr,inL];first|done|omega|(congr 1;done))),?_⟩);done),?_⟩
    ·refine⟨by omega,Zrp hinv ?_⟩;simp only[ZgU,hp];rw[if_neg (by omega),if_neg (by simp[*])]
    ·omega
  ·refine kw1 kO kc0 kc0 ?_;refine Zai ?_;have:k=l.length:=by omega
   rw[Zgx,<-this,hinv]
end Go.Proofs.YtjjbhjnpeenbkaaGreatDoor.Cyc
