/- Contracts of small functions. -/
import Derived.Test.YtjjbhjnpeenbkaaGreatDoorTypes
set_option linter.unusedSimpArgs false
set_option linter.unusedVariables false
set_option maxHeartbeats 16000000
namespace Go.Proofs.YtjjbhjnpeenbkaaGreatDoor.Rt
open Go Go.PS Go.Proofs
set_option maxRecDepth 100000
attribute [local irreducible] Zad wpG Zaa
theorem Zx9 (n k:Int)(hk:0<k):∃q r,n.tdiv k=q/\n.tmod k=r/\n=k*q+r/\-k<r/\r<k/\(0<=n->0<=r)/\(n<=0->r<=0):=by
 refine⟨_,_,rfl,rfl,(Int.mul_tdiv_add_tmod n k).symm,?_,Int.tmod_lt_of_pos n hk,λ h=>Int.tmod_nonneg k h,λ h=>?_⟩
 ·have:=Int.lt_tmod_of_pos n hk;omega
 ·have:=Int.tmod_nonneg (a:=-n) k (by omega);rw[Int.neg_tmod]at this;omega
theorem Zvh (n:Int)(h1:-9223372036854775807<=n)(h2:n<=9223372036854775807):Zaa Tryz.prog 77 [.int n] (.int (n/3)):=by
 obtain⟨q,r,hq,hr,hn,hr1,hr2,hr3,hr4⟩:=Zx9 n 3 (by omega);refine kE Tryz.func77 ?_;intro _ B X w0;refine kw kO (kc2 hq hr) kc0 ?_
 repeat' first|exact True.intro|refine Bn.mk ?_ ?_|intro hc
 all_goals
  refine Zai ?_;omega
abbrev Pt :=Int×Int
abbrev ptD (p:Pt):D:= .ag [.int p.1, .int p.2]
theorem ZtL (p q:Pt):(decide (p.1=q.1)&&decide (p.2=q.2))=decide (p=q):=by
 rw[qV];simp[Prod.ext_iff]
def Zdm (p:Pt):Bool:=decide (-268435456<=p.1/\p.1<=268435456/\-268435456<=p.2/\p.2<=268435456)
theorem Zea (p:Pt):Zaa Tryz.prog 120 [ptD p] (.bool (Zdm p)):=by
 refine kE Tryz.func120 ?_;intro _ B X w0;refine kw kO kc0 kc0 ?_
 repeat' first|exact True.intro|refine Bn.mk ?_ ?_|intro hc
 all_goals
  refine Zah ?_;rw[qV];simp only[Zdm,uF,qD,false_iff,true_iff];omega
theorem Zmd (a:Int):a.fdiv (2^min 1 64)=a/2:=by
 show a.fdiv 2=a/2;exact Da a (by omega)
def inR (p:Pt):Prop:=-268435456<=p.1/\p.1<=268435456/\-268435456<=p.2/\p.2<=268435456
def mid (a b:Pt):Pt:=((a.1+b.1)/2,(a.2+b.2)/2)
theorem Zi5 {a b:Pt}(h1:inR a)(h2:inR b):inR (mid a b):=by
 simp only[inR,mid]at*;omega
theorem Zi6 (a b:Pt)(h1:inR a)(h2:inR b):Zaa Tryz.prog 126 [ptD a,ptD b] (ptD (mid a b)):=by
 simp only[inR]at h1 h2;refine kE Tryz.func126 ?_;intro _ B X w0
 repeat' first|refine ZbQ rfl ?_|refine Za7 ?_|refine wR ?_|(refine ZbY rfl rfl (λ hc=>?_) (λ hc=>?_)<;>try simp only[hcL]at hc)|(refine ZbW _ rfl rfl (λ hc=>?_) (λ hc=>?_)<;>(try simp only[hcL]at hc)<;>try omega)|simp(disch:=omega) only[go_sem,simprocAttr,Zmd,Int.reduceLE]|apply And.intro|omega|decide+kernel
 all_goals
  refine⟨_,_,_,_,rfl,?_⟩;simp(disch:=omega) only[go_sem,simprocAttr,mid]
abbrev Bx :=Int×Int×Int×Int
abbrev bxD (b:Bx):D:= .ag [.int b.1, .int b.2.1, .int b.2.2.1, .int b.2.2.2]
def ZiJ (b:Bx):Bool:=Zdm (b.1,b.2.1)&&Zdm (b.2.2.1,b.2.2.2)&&decide (b.1<=b.2.2.1)&&decide (b.2.1<=b.2.2.2)
theorem ZjE (b:Bx):Zaa Tryz.prog 68 [bxD b] (.bool (ZiJ b)):=by
 refine kE Tryz.func68 ?_;intro _ B X w0;refine kw kO kc0 (kc2 (Zea (b.1,b.2.1)) (Zea (b.2.2.1,b.2.2.2))) ?_
 repeat' first|exact True.intro|refine Bn.mk ?_ ?_|intro hc
 all_goals
  refine Zah ?_;simp only[ZiJ, *,Ax,zT,kH,Bool.and_true,Af,Ag]
theorem ZxV (p:Pt):Zaa Tryz.prog 125 [ptD p] (.bool (!Zdm p)):=by
 refine kE Tryz.func125 ?_;intro _ B X w0;refine kw1 kO kc0 (kc1 (Zea p)) ?_
 all_goals exact Zah rfl
theorem ZBQ (p:Pt):Zaa Tryz.prog 183 [ptD p] (.bool (!Zdm p)):=by
 refine kE Tryz.func183 ?_;intro _ B X w0;refine kw1 kO kc0 (kc1 (Zea p)) ?_
 all_goals exact Zah rfl
end Go.Proofs.YtjjbhjnpeenbkaaGreatDoor.Rt
namespace Go.Proofs.YtjjbhjnpeenbkaaGreatDoor.Rt
open Go Go.PS Go.Proofs
set_option maxRecDepth 100000
attribute [local irreducible] Zad wpG Zaa Zag
abbrev ptsD (l:List Pt):D:= .sl (l.map ptD)
def Zk4 (l:List Pt)(j:Nat):Bool:= !decide (l[j]? =l[j+1]?)
def Zlp (l:List Pt):Bool:=Zdu (Zk4 l) (l.length-1)
theorem Zx7 (l:List Pt):Zaa Tryz.prog 127 [ptsD l] (.bool (Zlp l)):=by
 refine kE Tryz.func127 ?_;intro hat B X w0;have hl:=ZaJ 0 hat rfl;rw[uC]at hl;refine kw1 kO kc0 kc0 ?_
 ·refine Zaf (λ(k:Nat)=>k<=l.length-1/\Zdu (Zk4 l) k=true) (λ k=>[(0, .d (ptsD l)),(3, .int (k+1))]) (λ k=>[]) (λ k=>l.length-k) 0 ?_ ?_ ?_
  ·exact⟨uH _,rfl⟩
  ·exact kN kc0 []
  ·rintro k ⟨hk,hinv⟩;rcases uE (k+1) l.length with hlt|hge
   ·obtain⟨p,hp⟩:=Zac (show k<l.length by omega);obtain⟨q,hq⟩:=Zac hlt;have e1:((k:Int)+1-1).toNat=k:=by omega
    have e2:((k:Int)+1).toNat=k+1:=by omega
    refine kw kO (kc5 e1 e2 hp hq ZtL) kc0 ?_
    repeat' first|exact True.intro|refine Bn.mk ?_ ?_|intro hc
    ·refine Zah ?_;exact(ZmJ (show k<l.length-1 by omega) (by simp only[Zk4,hp,hq,hc,Ax,Ce])).symm
    ·refine⟨k+1,?_,eL [] _ _ (by refine⟨?_,?_⟩<;>(repeat' first|exact fmn|refine fmc ⟨(by first|rfl|(simp(disch:=omega) only[go_sem,simprocAttr,inL];first|done|omega|(congr 1;done))),?_⟩);done),?_⟩
     ·exact⟨by omega,ZmL hinv (by simp[Zk4,hp,hq,hc])⟩
     ·omega
   ·refine kw1 kO kc0 kc0 ?_;refine Zah ?_;have:k=l.length-1:=by omega
    rw[Zlp,<-this,hinv]
theorem Zzg (q:Pt->Bool)(g:FuncId)(hg:∀p,Zaa Tryz.prog g [ptD p] (.bool (q p)))(l:List Pt):
  Zaa Tryz.prog 182 [ptsD l, .fn g []] (.int (ZcU (l.findIdx? q))):=by
 refine kE Tryz.func182 ?_;intro hat B X w0;have hl:=ZaJ 0 hat rfl;rw[uC]at hl;refine kw1 kO kc0 kc0 ?_;refine Zaf (λ(k:Nat)=>k<=l.length/\∀(j:Nat) y,j<k->l[j]? =some y->q y=false) (λ k=>[(0, .d (ptsD l)),(1, .d (.fn g [])),(7, .int l.length),(8, .int k)]) (λ k=>[]) (λ k=>l.length-k) 0 ?_ ?_ ?_
 ·exact⟨uH _,λ j y h=>by omega⟩
 ·exact kN kc0 []
 ·rintro k ⟨hk,hinv⟩;rcases uE k l.length with hlt|hge
  ·obtain⟨p,hp⟩:=Zac hlt;refine kw kO (kc1 hp) (kc1 (hg p)) ?_
   repeat' first|exact True.intro|refine Bn.mk ?_ ?_|intro hc
   ·refine Zai ?_;rw[Zex hp hc hinv];rfl
   ·refine⟨k+1,?_,eL [] _ _ (by refine⟨?_,?_⟩<;>(repeat' first|exact fmn|refine fmc ⟨(by first|rfl|(simp(disch:=omega) only[go_sem,simprocAttr,inL];first|done|omega|(congr 1;done))),?_⟩);done),?_⟩
    ·exact⟨by omega,Zbr hinv hp hc⟩
    ·omega
  ·refine kw1 kO kc0 kc0 ?_;refine Zai ?_;rw[Ze3 (λ j y hy=>hinv j y (by have:=(uB.1 hy).1;omega) hy)];rfl
theorem ZqN (q:Pt->Bool)(g:FuncId)(hg:∀p,Zaa Tryz.prog g [ptD p] (.bool (q p)))(l:List Pt):
  Zaa Tryz.prog 124 [ptsD l, .fn g []] (.bool (l.any q)):=by
 refine kE Tryz.func124 ?_;intro hat B X w0;have hl:=ZaJ 0 hat rfl;rw[uC]at hl;refine kw1 kO kc0 (kc1 (Zzg q g hg l)) ?_;exact Zah (Zg3 q l)
def Zjd (l:List Pt):Bool:=decide (1<=l.length)&&decide (l.length<=512)&& !l.any (λ p=> !Zdm p)
theorem ZBR (l:List Pt):Zaa Tryz.prog 128 [ptsD l] (.bool (Zjd l)):=by
 refine kE Tryz.func128 ?_;intro hat B X w0;have hl:=ZaJ 0 hat rfl;rw[uC]at hl;refine kw kO kc0 (kc1 (ZqN _ _ ZBQ l)) ?_
 repeat' first|exact True.intro|refine Bn.mk ?_ ?_|intro hc
 all_goals
  refine Zah ?_;simp[Zjd]
  try omega
theorem Ztk (l:List Pt):Zaa Tryz.prog 76 [ptsD l] (.bool (Zlp l&&Zjd l)):=by
 refine kE Tryz.func76 ?_;intro hat B X w0;have hl:=ZaJ 0 hat rfl;rw[uC]at hl;refine kw kO kc0 (kc2 (ZBR l) (Zx7 l)) ?_
 repeat' first|exact True.intro|refine Bn.mk ?_ ?_|intro hc
 all_goals
  refine Zah ?_;simp[*]
def Zgq (l:List Pt):Bool:=decide (l.length%3=1)&&decide (l.length<=1534)&& !l.any (λ p=> !Zdm p)
theorem ZEW (n:Nat):(n:Int).tmod 3=((n%3:Nat):Int):=rfl
theorem ZqR (l:List Pt):Zaa Tryz.prog 74 [ptsD l] (.bool (Zgq l)):=by
 refine kE Tryz.func74 ?_;intro hat B X w0;have hl:=ZaJ 0 hat rfl;rw[uC]at hl;refine kw kO (kc1 @ZEW) (kc1 (ZqN _ _ ZxV l)) ?_
 repeat' first|exact True.intro|refine Bn.mk ?_ ?_|intro hc
 all_goals
  refine Zah ?_;simp only[Zgq];generalize l.any _=c;cases c<;>simp<;>omega
theorem Zc2 {α:Type}{q:α->Bool}{l:List α}(h:∀(j:Nat) y,j<l.length->l[j]? =some y->q y=false):l.any q=false:=by
 rw[zV];intro hq;obtain⟨x,hx,hx2⟩:=gF.1 hq;obtain⟨k,hk⟩:=yU hx;rw[h k x (uB.1 hk).1 hk]at hx2;cases hx2
theorem ZcE {α:Type}{q:α->Bool}{l:List α}{k:Nat}{x:α}(h:l[k]? =some x)(hq:q x=true):l.any q=true:=gF.2 ⟨x,uA h,hq⟩
def Zij (l:List Pt):Bool:=Zlp l&&Zjd l
def Zcb :Nat->Pt->Pt->Pt->Pt->List Pt
 |0,_,_,_,d=>[d]
 |n+1,a,b,c,d=>Zcb n a (mid a b) (mid (mid a b) (mid b c)) (mid (mid (mid a b) (mid b c)) (mid (mid b c) (mid c d)))++
  Zcb n (mid (mid (mid a b) (mid b c)) (mid (mid b c) (mid c d))) (mid (mid b c) (mid c d)) (mid c d) d
theorem Zkq (n:Nat):∀a b c d,(Zcb n a b c d).length=2^n:=by
 induction n with
 |zero=>intro a b c d;rfl
 |succ n ih=>intro a b c d;simp only[Zcb,uG,ih];omega
attribute [local irreducible] mid inR Zcb
theorem Zy3 (n:Nat):∀(k:Int) (l:List Pt) (a b c d:Pt),k=n->n<=10->l.length+2^n<=1000000000->inR a->inR b->inR c->inR d->
  Zag Tryz.prog 75 [.ref 1000 2 0 l.length l.length, .d (ptD a), .d (ptD b), .d (ptD c), .d (ptD d), .int k] [(1000, .row 2 (l.map ptD)),(2000, .dead)]
   (.ref 2000 2 0 (l.length+(Zcb n a b c d).length) (l.length+(Zcb n a b c d).length)) [(1000, .gone),(2000, .row 2 (l.map ptD++(Zcb n a b c d).map ptD))]:=by
 induction n with
 |zero=>
  intro k l a b c d hk hn hl pa pb pc pd;have e:Zcb 0 a b c d=[d]:=by unfold Zcb;rfl
  subst hk;rw[e];refine kM Tryz.func75 ?_;intro B X w0;refine kw1 kP (kc2 @Zal @Nat.pow_zero) kc0 ?_;refine kR kc0 [(2000,24)] [(12, .ref 2000 2 0 _ _)] [(1000, .gone),(2000, .row 2 _)] ?_;refine Za7 ?_;exact⟨rfl,uK.2 ⟨rfl,uK.2 ⟨rfl,uW _⟩⟩⟩
 |succ n ih=>
  intro k l a b c d hk hn hl pa pb pc pd;have hk0:k≠0:=by omega
  have e:Zcb (n+1) a b c d=Zcb n a (mid a b) (mid (mid a b) (mid b c)) (mid (mid (mid a b) (mid b c)) (mid (mid b c) (mid c d)))++
   Zcb n (mid (mid (mid a b) (mid b c)) (mid (mid b c) (mid c d))) (mid (mid b c) (mid c d)) (mid c d) d:=by
   conv=>lhs;unfold Zcb
  rw[e,uG,uQ];have h1:=Zi5 pa pb;have h2:=Zi5 pb pc;have h3:=Zi5 pc pd;have h4:=Zi5 h1 h2;have h5:=Zi5 h2 h3;have h6:=Zi5 h4 h5;have hp:2^(n+1)=2^n+2^n:=by rw[Nat.pow_succ];omega
  have l1:=Zkq n a (mid a b) (mid (mid a b) (mid b c)) (mid (mid (mid a b) (mid b c)) (mid (mid b c) (mid c d)));have ih1:=ih (k-1) l _ _ _ _ (by omega) (by omega) (by omega) pa h1 h4 h6;have ih2:=ih (k-1) (l++Zcb n a (mid a b) (mid (mid a b) (mid b c)) (mid (mid (mid a b) (mid b c)) (mid (mid b c) (mid c d)))) _ _ _ _ (by omega) (by omega) (by rw[uG];omega) h6 h5 h3 pd;rw[uG,uQ,qK,kX]at ih2;refine kM Tryz.func75 ?_;intro B X w0
  repeat' first|refine ZbQ rfl ?_|refine wR ?_|(refine rc (Zi6 _ _ pa pb) rfl ?_ ?_;(· first|rfl|simp(disch:=omega) only[go_sem,simprocAttr,roomy,Zal]))|(refine rc (Zi6 _ _ pb pc) rfl ?_ ?_;(· first|rfl|simp(disch:=omega) only[go_sem,simprocAttr,roomy,Zal]))|(refine rc (Zi6 _ _ pc pd) rfl ?_ ?_;(· first|rfl|simp(disch:=omega) only[go_sem,simprocAttr,roomy,Zal]))|(refine rc (Zi6 _ _ h1 h2) rfl ?_ ?_;(· first|rfl|simp(disch:=omega) only[go_sem,simprocAttr,roomy,Zal]))|(refine rc (Zi6 _ _ h2 h3) rfl ?_ ?_;(· first|rfl|simp(disch:=omega) only[go_sem,simprocAttr,roomy,Zal]))|(refine rc (Zi6 _ _ h4 h5) rfl ?_ ?_;(· first|rfl|simp(disch:=omega) only[go_sem,simprocAttr,roomy,Zal]))|refine rcM [(2000,50)] (ih1) rfl ?_|refine rcM [(1000,50),(2000,57)] (ih2) rfl ?_|(refine ZbY rfl rfl (λ hc=>?_) (λ hc=>?_)<;>try simp only[hcL]at hc)|(refine ZbW _ rfl rfl (λ hc=>?_) (λ hc=>?_)<;>(try simp only[hcL]at hc)<;>try omega)|simp(disch:=omega) only[go_sem,simprocAttr,roomy,Zal]|apply And.intro|omega|decide+kernel
  refine kR kc0 [(2000,57)] [(12, .ref 2000 2 0 _ _)] [(1000, .gone),(2000, .row 2 _)] ?_;refine Za7 ?_;exact⟨rfl,uK.2 ⟨rfl,uK.2 ⟨rfl,uW _⟩⟩⟩
end Go.Proofs.YtjjbhjnpeenbkaaGreatDoor.Rt
namespace Go.Proofs.YtjjbhjnpeenbkaaGreatDoor.Rt
open Go Go.PS Go.Proofs
set_option maxRecDepth 100000
attribute [local irreducible] Zad wpG Zaa Zag
def Znn (a b:Pt):List Pt:=[(a.1,(2*a.2+b.2)/3),(b.1,(a.2+2*b.2)/3),b]
def Zo7 (l:List Pt)(j:Nat):List Pt:=match l[j]?,l[j+1]? with
 |some a,some b=>Znn a b
 |_,_=>[]
def Zcp (l:List Pt)(k:Nat):List Pt:=l.take 1++Za2 (Zo7 l) k
def Zd4 (l:List Pt):List Pt:=if Zij l then Zcp l (l.length-1)else[]
theorem Ztp {l:List Pt}(h:Zij l=true):1<=l.length/\l.length<=512:=by
 simp only[Zij,Zjd,uL,uF]at h;exact⟨h.2.1.1,h.2.1.2⟩
theorem Zto {l:List Pt}(h:Zij l=true){k:Nat}{p:Pt}(hk:l[k]? =some p):-268435456<=p.1/\p.1<=268435456/\-268435456<=p.2/\p.2<=268435456:=by
 simp only[Zij,Zjd,uL,yC,yS]at h;have:=h.2.2 p (uA hk);simpa[Zdm]using this
theorem Zos {l:List Pt}(hl:1<=l.length):∀k,k<=l.length-1->(Zcp l k).length=1+3*k:=by
 intro k
 induction k with
 |zero=>intro _;simp[Zcp,Za2];omega
 |succ k ih=>
  intro hk;obtain⟨p,hp⟩:=Zac (show k<l.length by omega);obtain⟨q,hq⟩:=Zac (show k+1<l.length by omega);have:=ih (by omega);simp only[Zcp,Za2,uG]at this|-;simp[Zo7,hp,hq,Znn];simp at this;omega
theorem Ztg {l:List Pt}{k:Nat}{p q:Pt}(hp:l[k]? =some p)(hq:l[k+1]? =some q):Zcp l (k+1)=Zcp l k++[(p.1,(2*p.2+q.2)/3),(q.1,(p.2+2*q.2)/3),q]:=by
 simp only[Zcp,Za2,qK,Zo7,hp,hq,Znn]
theorem Zot {l:List Pt}{p:Pt}(hp:l[0]? =some p):Zcp l 0=[p]:=by
 cases l with
 |nil=>simp at hp
 |cons a l=>simp at hp;subst hp;rfl
theorem ZvM (l:List Pt):Zaa Tryz.prog 27 [ptsD l] (ptsD (Zd4 l)):=by
 rcases h:Zij l with _|_
 ·have hv:Zaa Tryz.prog 76 [ptsD l] (.bool false):=h▸Ztk l;refine kE Tryz.func27 ?_;intro hat B X w0;have hl:=ZaJ 0 hat rfl;rw[uC]at hl;refine kw1 kO kc0 (kc1 hv) ?_;refine Zcm ?_;simp[Zd4,h]
 ·have hv:Zaa Tryz.prog 76 [ptsD l] (.bool true):=h▸Ztk l;obtain⟨h1,h2⟩:=Ztp h;obtain⟨p0,hp0⟩:=Zac (show 0<l.length by omega);refine kE Tryz.func27 ?_;intro hat B X w0;have hl:=ZaJ 0 hat rfl;rw[uC]at hl;refine kw1 (kow (Nat.beq 13) (b:=true)) (kc3 hp0 @Zal @kC.{0}) (kc1 hv) ?_;refine Zaf (λ(k:Nat)=>k<=l.length-1) (λ k=>[(0, .d (ptsD l)),(3, .ref 13 2 0 (Zcp l k).length (Zcp l k).length),(15, .d (.sl ((l.map ptD).drop 1))),(16, .int ((l.length-1:Nat):Int)),(17, .int k)]) (λ k=>[(13, .row 2 ((Zcp l k).map ptD))]) (λ k=>l.length-k) 0 ?_ ?_ ?_
  ·exact uH _
  ·exact kN (kc3 (Zot hp0) @kC.{0} @uC.{0,0}) []
  ·intro k hk;have hlen:=Zos h1 k hk;rcases uE (k+1) l.length with hlt|hge
   ·obtain⟨p,hp⟩:=Zac (show k<l.length by omega);obtain⟨q,hq⟩:=Zac hlt;have e3:1+k=k+1:=by omega
    have hpi:=Zto h hp;have hqi:=Zto h hq;have ho:=Ztg hp hq;have t1:=Zvh (2*p.2+q.2) (by omega) (by omega);have t2:=Zvh (p.2+2*q.2) (by omega) (by omega);refine kw1 kO (kc6 e3 hp hq @Zal @kC.{0} @gA.{0}) (kc2 t1 t2) ?_;refine⟨k+1,?_,kN (kc3 ho @uG.{0} @uQ.{0,0}) [(13,49)],?_⟩
    ·omega
    ·omega
   ·refine kw1 kO kc0 kc0 ?_;have:k=l.length-1:=by omega
    subst this;exact ZbF (o:=13) rfl rfl (by simp) (by simp[Zd4,h,Zal])
def Ztz (c:List Pt)(n k:Nat):List Pt:=match c[3*k]?,c[3*k+1]?,c[3*k+2]?,c[3*k+3]? with
 |some p,some q,some r,some s=>Zcb n p q r s
 |_,_,_,_=>[]
def ZeF (c:List Pt)(n k:Nat):List Pt:=c.take 1++Za2 (Ztz c n) k
def Ze5 (c:List Pt)(depth:Int):List Pt:=if Zgq c&&decide (0<=depth)&&decide (depth<=4)then ZeF c depth.toNat (c.length/3)else[]
theorem ZqQ {c:List Pt}(h:Zgq c=true):c.length=3*(c.length/3)+1/\c.length/3<=511:=by
 simp only[Zgq,uL,uF]at h;omega
theorem Zlo {c:List Pt}(h:Zgq c=true){k:Nat}{p:Pt}(hk:c[k]? =some p):inR p:=by
 simp only[Zgq,uL,yC,yS]at h;have:=h.2 p (uA hk);simpa[Zdm,inR]using this
theorem Zth {c:List Pt}{n:Nat}{p:Pt}(hp:c[0]? =some p):ZeF c n 0=[p]:=by
 cases c with
 |nil=>simp at hp
 |cons a c=>simp at hp;subst hp;rfl
theorem Zou {c:List Pt}{n k:Nat}{p q r s:Pt}(h1:c[3*k]? =some p)(h2:c[3*k+1]? =some q)(h3:c[3*k+2]? =some r)(h4:c[3*k+3]? =some s):
  ZeF c n (k+1)=ZeF c n k++Zcb n p q r s:=by
 simp only[ZeF,Za2,qK,Ztz,h1,h2,h3,h4]
theorem ZBl {c:List Pt}(n:Nat)(hc:Zgq c=true):∀k,k<=c.length/3->(ZeF c n k).length=1+k*2^n:=by
 obtain⟨h1,h2⟩:=ZqQ hc;intro k
 induction k with
 |zero=>intro _;simp[ZeF,Za2];omega
 |succ k ih=>
  intro hk;obtain⟨p,hp⟩:=Zac (show 3*k<c.length by omega);obtain⟨q,hq⟩:=Zac (show 3*k+1<c.length by omega);obtain⟨r,hr⟩:=Zac (show 3*k+2<c.length by omega);obtain⟨s,hs⟩:=Zac (show 3*k+3<c.length by omega);rw[Zou hp hq hr hs,uG,ih (by omega),Zkq,qJ];omega
theorem ZBZ {n:Nat}(h:n<=4):2^n<=16:=by
 have:2^n<=2^4:=kD (by omega) h;omega
attribute [local irreducible] mid inR Zcb
theorem ZvN (c:List Pt)(depth:Int):Zaa Tryz.prog 26 [ptsD c, .int depth] (ptsD (Ze5 c depth)):=by
 rcases h:Zgq c with _|_
 ·have hv:Zaa Tryz.prog 74 [ptsD c] (.bool false):=h▸ZqR c;refine kE Tryz.func26 ?_;intro hat B X w0;have hl:=ZaJ 0 hat rfl;rw[uC]at hl;refine kw1 kO kc0 (kc1 hv) ?_;refine Zcm ?_;simp[Ze5,h]
 ·have hv:Zaa Tryz.prog 74 [ptsD c] (.bool true):=h▸ZqR c;obtain⟨h1,h2⟩:=ZqQ h;obtain⟨p0,hp0⟩:=Zac (show 0<c.length by omega);by_cases hd:0<=depth/\depth<=4
  ·obtain⟨n,rfl⟩:∃n:Nat,depth=n:=⟨depth.toNat,by omega⟩;have hpow:=ZBZ (show n<=4 by omega);refine kE Tryz.func26 ?_;intro hat B X w0;have hl:=ZaJ 0 hat rfl;rw[uC]at hl;refine kw1 (kow (Nat.beq 21) (b:=true)) (kc1 hp0) (kc1 hv) ?_;refine Zaf (λ(k:Nat)=>k<=c.length/3) (λ k=>[(0, .d (ptsD c)),(1, .int n),(5, .ref 21 2 0 (ZeF c n k).length (ZeF c n k).length),(6, .int (3*k))]) (λ k=>[(21, .row 2 ((ZeF c n k).map ptD))]) (λ k=>c.length-k) 0 ?_ ?_ ?_
   ·exact uH _
   ·exact eL [] _ _ (by refine⟨?_,?_⟩<;>(repeat' first|exact fmn|refine fmc ⟨(by first|rfl|(simp(disch:=omega) only[go_sem,simprocAttr,inL,Zth hp0];first|done|omega|(congr 1;done))),?_⟩);done)
   ·intro k hk;have hlen:=ZBl n h k hk;have hlk:k*2^n<=k*16:=Nat.mul_le_mul_left _ hpow;rcases uE k (c.length/3)with hlt|hge
    ·obtain⟨p,hp⟩:=Zac (show 3*k<c.length by omega);obtain⟨q,hq⟩:=Zac (show 3*k+1<c.length by omega);obtain⟨r,hr⟩:=Zac (show 3*k+2<c.length by omega);obtain⟨s,hs⟩:=Zac (show 3*k+3<c.length by omega);have e0:(3*(k:Int)).toNat=3*k:=by omega
     have e1:(3*(k:Int)+1).toNat=3*k+1:=by omega
     have e2:(3*(k:Int)+2).toNat=3*k+2:=by omega
     have e3:(3*(k:Int)+3).toNat=3*k+3:=by omega
     have ho:=Zou (n:=n) hp hq hr hs;have hh:=Zy3 n n (ZeF c n k) p q r s rfl (by omega) (by omega) (Zlo h hp) (Zlo h hq) (Zlo h hr) (Zlo h hs);refine kw1 kO (kc8 e0 e1 e2 e3 hp hq hr hs) (kc1 (kmc [(1000,21),(2000,50)] hh)) ?_;refine⟨k+1,?_,kN (kc3 ho @uG.{0} @uQ.{0,0}) [(21,50)],?_⟩
     ·omega
     ·omega
    ·refine kw1 kO kc0 kc0 ?_;have:k=c.length/3:=by omega
     subst this;exact ZbF (o:=21) rfl rfl (by simp) (by simp[Ze5,h,hd,Zal])
  ·refine kE Tryz.func26 ?_;intro hat B X w0;have hl:=ZaJ 0 hat rfl;rw[uC]at hl;refine kw kO kc0 (kc1 hv) ?_
   repeat' first|exact True.intro|refine Bn.mk ?_ ?_|intro hc
   all_goals
    refine Zcm ?_;have:Ze5 c depth=[]:=by
     simp only[Ze5];rw[if_neg];simp;omega
    rw[this];rfl
end Go.Proofs.YtjjbhjnpeenbkaaGreatDoor.Rt
namespace Go.Proofs.YtjjbhjnpeenbkaaGreatDoor.Rt
open Go Go.PS Go.Proofs
set_option maxRecDepth 100000
attribute [local irreducible] Zad wpG Zaa Zag
abbrev Zlf (l:List Bx):D:= .sl (l.map bxD)
theorem Zlu {α β:Type}(f:β->α->β)(z:β){l:List α}{k:Nat}{x:α}(h:l[k]? =some x):(l.take (k+1)).foldl f z=f ((l.take k).foldl f z) x:=by
 rw[ZaA h,Bw];rfl
theorem ZsU {a b A B:Int}(h1:-A<=a)(h2:a<=A)(h3:-B<=b)(h4:b<=B):-(A*B)<=a*b/\a*b<=A*B:=by
 have hab:(a*b).natAbs<=(A*B).natAbs:=by
  rw[Int.natAbs_mul,Int.natAbs_mul];exact kZ (by omega) (by omega)
 have:0<=A*B:=Int.mul_nonneg (by omega) (by omega);omega
abbrev ZdE (r:Int×Int):D:= .ag [.int r.1, .int r.2]
abbrev sgD (p q:Pt):D:= .ag [.int p.1, .int p.2, .int q.1, .int q.2]
theorem Zg8 (a b:Int×Int)(h:-1073741824<=a.1/\a.1<=1073741824/\-1073741824<=a.2/\a.2<=1073741824/\-1073741824<=b.1/\b.1<=1073741824/\-1073741824<=b.2/\b.2<=1073741824):
  Zaa Tryz.prog 123 [ZdE a,ZdE b] (.bool (decide (a.1*b.2<b.1*a.2))):=by
 have m1:=ZsU (a:=a.1) (b:=b.2) (A:=1073741824) (B:=1073741824) (by omega) (by omega) (by omega) (by omega);have m2:=ZsU (a:=b.1) (b:=a.2) (A:=1073741824) (B:=1073741824) (by omega) (by omega) (by omega) (by omega);have hh:(1073741824:Int)*1073741824=1152921504606846976:=by decide
 rw[hh]at m1 m2;refine kE Tryz.func123 ?_;intro _ B X w0;refine kw1 kO kc0 kc0 ?_;exact Zah rfl
def Zbh (f by' low high:Int):Int×Int×Int:=if by'<0 then(-high- -f,-low- -f,-by')else(low-f,high-f,by')
def okS (s:Int×Int×Int):Bool:=if s.2.2=0 then decide (s.1<0)&&decide (0<s.2.1)else decide (s.1<s.2.1)&&decide (s.1<s.2.2)&&decide (0<s.2.1)
def ZfC (f by' low high:Int):D:=let s:=Zbh f by' low high
 if by'=0 then .tup [ZdE (0,0),ZdE (0,0), .bool true, .bool (okS s)]else .tup [ZdE (s.1,s.2.2),ZdE (s.2.1,s.2.2), .bool false, .bool (okS s)]
theorem ZsC {a b c:Int}(h:0<c):(a*c<b*c)=(a<b):=propext ⟨λ h2=>Int.lt_of_mul_lt_mul_right h2 (Dh h),λ h2=>Int.mul_lt_mul_of_pos_right h2 h⟩
theorem ZuS (f b low high:Int)(h:-536870912<=f/\f<=536870912/\-536870912<=b/\b<=536870912/\-536870912<=low/\low<=536870912/\-536870912<=high/\high<=536870912):
  Zaa Tryz.prog 122 [.int f, .int b, .int low, .int high] (ZfC f b low high):=by
 by_cases h0:b=0
 ·have eD:ZfC f b low high= .tup [ZdE (0,0),ZdE (0,0), .bool true, .bool (okS (Zbh f b low high))]:=by simp[ZfC,h0]
  rw[eD];refine kE Tryz.func122 ?_;intro _ B X w0;refine kw kO kc0 kc0 ?_
  repeat' first|exact True.intro|refine Bn.mk ?_ ?_|intro hc
  all_goals
   refine⟨_,rfl,⟨_,_,_,_,rfl,?_⟩,⟨_,_,_,_,rfl,?_⟩,rfl,Zah ?_,trivial⟩
   ·simp(disch:=omega) only[go_sem,simprocAttr]
   ·simp(disch:=omega) only[go_sem,simprocAttr]
   ·simp only[okS,Zbh,h0];simp
    try omega
 ·by_cases hn:b<0
  ·have e:Zbh f b low high=(-high- -f,-low- -f,-b):=by simp[Zbh,hn]
   have eD:ZfC f b low high= .tup [ZdE (-high- -f,-b),ZdE (-low- -f,-b), .bool false, .bool (okS (-high- -f,-low- -f,-b))]:=by simp[ZfC,h0,e]
   have hp:=λ x y=>ZsC (a:=x) (b:=y) (show 0< -b by omega)
   have r1:=Zg8 (-high- -f,-b) (-low- -f,-b) (by dsimp only;omega);have r2:=Zg8 (-high- -f,-b) (1,1) (by dsimp only;omega);have r3:=Zg8 (0,1) (-low- -f,-b) (by dsimp only;omega)
   (try dsimp only at r1 r2 r3)
   rw[eD];refine kE Tryz.func122 ?_;intro _ B X w0
   repeat' first|refine ZbQ rfl ?_|refine Za7 ?_|refine wR ?_|(refine rc (r1) rfl ?_ ?_;(· first|rfl|simp(disch:=omega) only[go_sem,simprocAttr]))|(refine rc (r2) rfl ?_ ?_;(· first|rfl|simp(disch:=omega) only[go_sem,simprocAttr]))|(refine rc (r3) rfl ?_ ?_;(· first|rfl|simp(disch:=omega) only[go_sem,simprocAttr]))|(refine ZbY rfl rfl (λ hc=>?_) (λ hc=>?_)<;>try simp only[hcL,hp]at hc)|(refine ZbW _ rfl rfl (λ hc=>?_) (λ hc=>?_)<;>(try simp only[hcL,hp]at hc)<;>try omega)|simp(disch:=omega) only[go_sem,simprocAttr]|apply And.intro|omega|decide+kernel
   all_goals
    refine⟨_,rfl,⟨_,_,_,_,rfl,?_⟩,⟨_,_,_,_,rfl,?_⟩,rfl,Zah ?_,trivial⟩
    ·simp(disch:=omega) only[go_sem,simprocAttr]
    ·simp(disch:=omega) only[go_sem,simprocAttr]
    ·simp[okS,show -b≠0 by omega,hp]
     try omega
  ·have e:Zbh f b low high=(low-f,high-f,b):=by simp[Zbh,hn]
   have eD:ZfC f b low high= .tup [ZdE (low-f,b),ZdE (high-f,b), .bool false, .bool (okS (low-f,high-f,b))]:=by simp[ZfC,h0,e]
   have hp:=λ x y=>ZsC (a:=x) (b:=y) (show 0<b by omega)
   have r1:=Zg8 (low-f,b) (high-f,b) (by dsimp only;omega);have r2:=Zg8 (low-f,b) (1,1) (by dsimp only;omega);have r3:=Zg8 (0,1) (high-f,b) (by dsimp only;omega)
   (try dsimp only at r1 r2 r3)
   rw[eD];refine kE Tryz.func122 ?_;intro _ B X w0
   repeat' first|refine ZbQ rfl ?_|refine Za7 ?_|refine wR ?_|(refine rc (r1) rfl ?_ ?_;(· first|rfl|simp(disch:=omega) only[go_sem,simprocAttr]))|(refine rc (r2) rfl ?_ ?_;(· first|rfl|simp(disch:=omega) only[go_sem,simprocAttr]))|(refine rc (r3) rfl ?_ ?_;(· first|rfl|simp(disch:=omega) only[go_sem,simprocAttr]))|(refine ZbY rfl rfl (λ hc=>?_) (λ hc=>?_)<;>try simp only[hcL,hp]at hc)|(refine ZbW _ rfl rfl (λ hc=>?_) (λ hc=>?_)<;>(try simp only[hcL,hp]at hc)<;>try omega)|simp(disch:=omega) only[go_sem,simprocAttr]|apply And.intro|omega|decide+kernel
   all_goals
    refine⟨_,rfl,⟨_,_,_,_,rfl,?_⟩,⟨_,_,_,_,rfl,?_⟩,rfl,Zah ?_,trivial⟩
    ·simp(disch:=omega) only[go_sem,simprocAttr]
    ·simp(disch:=omega) only[go_sem,simprocAttr]
    ·simp[okS,h0,hp]
     try omega
def Zf0 (b:Bx)(p q:Pt):Bool:=ZiJ b&&Zdm p&&Zdm q&&
 (let x:=Zbh p.1 (q.1-p.1) b.1 b.2.2.1;let y:=Zbh p.2 (q.2-p.2) b.2.1 b.2.2.2
  okS x&&okS y&&(decide (x.2.2=0)||decide (y.2.2=0)||(decide (x.1*y.2.2<y.2.1*x.2.2)&&decide (y.1*x.2.2<x.2.1*y.2.2))))
theorem Zs4 {f b low high:Int}(h:-268435456<=f/\f<=268435456/\-536870912<=b/\b<=536870912/\-268435456<=low/\low<=268435456/\-268435456<=high/\high<=268435456):
  -536870912<=(Zbh f b low high).1/\(Zbh f b low high).1<=536870912/\-536870912<=(Zbh f b low high).2.1/\(Zbh f b low high).2.1<=536870912/\0<=(Zbh f b low high).2.2/\(Zbh f b low high).2.2<=536870912/\((Zbh f b low high).2.2=0↔b=0):=by
 by_cases hn:b<0
 ·have e:Zbh f b low high=(-high- -f,-low- -f,-b):=by simp[Zbh,hn]
  rw[e];refine⟨?_,?_,?_,?_,?_,?_,?_⟩<;>simp only<;>omega
 ·have e:Zbh f b low high=(low-f,high-f,b):=by simp[Zbh,hn]
  rw[e];refine⟨?_,?_,?_,?_,?_,?_,Iff.rfl⟩<;>simp only<;>omega
theorem Zw8 {b:Bx}(h:ZiJ b=true):-268435456<=b.1/\b.1<=268435456/\-268435456<=b.2.1/\b.2.1<=268435456/\-268435456<=b.2.2.1/\b.2.2.1<=268435456/\-268435456<=b.2.2.2/\b.2.2.2<=268435456:=by
 simp only[ZiJ,Zdm,uL,uF]at h;omega
theorem ZtM {p:Pt}(h:Zdm p=true):-268435456<=p.1/\p.1<=268435456/\-268435456<=p.2/\p.2<=268435456:=by
 simpa[Zdm]using h
attribute [local irreducible] Zbh okS
theorem ZuR {f b low high:Int}(h:b=0):ZfC f b low high= .tup [ZdE (0,0),ZdE (0,0), .bool true, .bool (okS (Zbh f b low high))]:=by simp[ZfC,h]
theorem ZuQ {f b low high:Int}(h:b≠0):ZfC f b low high= .tup [ZdE ((Zbh f b low high).1,(Zbh f b low high).2.2),ZdE ((Zbh f b low high).2.1,(Zbh f b low high).2.2), .bool false, .bool (okS (Zbh f b low high))]:=by simp[ZfC,h]
theorem ZvP (b:Bx)(p q:Pt):Zaa Tryz.prog 73 [bxD b,sgD p q] (.bool (Zf0 b p q)):=by
 rcases hb:ZiJ b with _|_
 ·have hbs:Zaa Tryz.prog 68 [bxD b] (.bool false):=hb▸ZjE b;refine kE Tryz.func73 ?_;intro _ B X w0;refine kw1 kO kc0 (kc1 hbs) ?_;refine Zah ?_;simp[Zf0,hb]
 have hbs:Zaa Tryz.prog 68 [bxD b] (.bool true):=hb▸ZjE b;rcases hp:Zdm p with _|_
 ·have hps:Zaa Tryz.prog 120 [ptD p] (.bool false):=hp▸Zea p;refine kE Tryz.func73 ?_;intro _ B X w0;refine kw1 kO kc0 (kc2 hbs hps) ?_;refine Zah ?_;simp[Zf0,hp]
 have hps:Zaa Tryz.prog 120 [ptD p] (.bool true):=hp▸Zea p;rcases hq:Zdm q with _|_
 ·have hqs:Zaa Tryz.prog 120 [ptD q] (.bool false):=hq▸Zea q;refine kE Tryz.func73 ?_;intro _ B X w0;refine kw1 kO kc0 (kc3 hbs hps hqs) ?_;refine Zah ?_;simp[Zf0,hq]
 have hqs:Zaa Tryz.prog 120 [ptD q] (.bool true):=hq▸Zea q;have bb:=Zw8 hb;have pb:=ZtM hp;have qb:=ZtM hq;have xs:=ZuS p.1 (q.1-p.1) b.1 b.2.2.1 (by omega);have ys:=ZuS p.2 (q.2-p.2) b.2.1 b.2.2.2 (by omega);have xb:=Zs4 (f:=p.1) (b:=q.1-p.1) (low:=b.1) (high:=b.2.2.1) (by omega);have yb:=Zs4 (f:=p.2) (b:=q.2-p.2) (low:=b.2.1) (high:=b.2.2.2) (by omega);have hF:Zf0 b p q=(let x:=Zbh p.1 (q.1-p.1) b.1 b.2.2.1;let y:=Zbh p.2 (q.2-p.2) b.2.1 b.2.2.2
  okS x&&okS y&&(decide (x.2.2=0)||decide (y.2.2=0)||(decide (x.1*y.2.2<y.2.1*x.2.2)&&decide (y.1*x.2.2<x.2.1*y.2.2)))):=by
  simp[Zf0,hb,hp,hq]
 rw[hF];clear hF;simp only;rcases hx0:decide (q.1-p.1=0)with _|_
 all_goals rcases hy0:decide (q.2-p.2=0)with _|_
 all_goals simp only[uF,qC]at hx0 hy0
 all_goals first|rw[ZuR hx0]at xs|rw[ZuQ hx0]at xs
 all_goals first|rw[ZuR hy0]at ys|rw[ZuQ hy0]at ys
 all_goals
  generalize Zbh p.1 (q.1-p.1) b.1 b.2.2.1=x at*;generalize Zbh p.2 (q.2-p.2) b.2.1 b.2.2.2=y at*;have r1:=Zg8 (x.1,x.2.2) (y.2.1,y.2.2) (by simp only;omega);have r2:=Zg8 (y.1,y.2.2) (x.2.1,x.2.2) (by simp only;omega);rcases hx:okS x with _|_
  all_goals rcases hy:okS y with _|_
  all_goals rw[hx]at xs
  all_goals rw[hy]at ys
 all_goals
  refine kE Tryz.func73 ?_
 all_goals intro _ B X w0
 all_goals
  refine kw kO kc0 (kc7 hbs hps hqs xs ys r1 r2) ?_
  repeat' first|exact True.intro|refine Bn.mk ?_ ?_|intro hc
 all_goals
  refine Zah ?_;obtain⟨_,_,_,_,_,_,xb0⟩:=xb;obtain⟨_,_,_,_,_,_,yb0⟩:=yb;simp[*]
end Go.Proofs.YtjjbhjnpeenbkaaGreatDoor.Rt
namespace Go.Proofs.YtjjbhjnpeenbkaaGreatDoor.Rt
open Go Go.PS Go.Proofs
set_option maxRecDepth 100000
attribute [local irreducible] Zad wpG Zaa Zag
def ZjT (boxes:List Bx)(p q:Pt)(k:Nat):Bool:=match boxes[k]? with|some b=> !Zf0 b p q|none=>true
def Zky (l:List Pt)(boxes:List Bx)(j:Nat):Bool:=match l[j]?,l[j+1]? with
 |some p,some q=>Zdu (ZjT boxes p q) boxes.length
 |_,_=>true
def ZgX (l:List Pt)(boxes:List Bx):Bool:=Zdu (Zky l boxes) (l.length-1)
attribute [local irreducible] Zf0
theorem ZpF (l:List Pt)(boxes:List Bx):Zaa Tryz.prog 25 [ptsD l,Zlf boxes] (.bool (ZgX l boxes)):=by
 refine kE Tryz.func25 ?_;intro hat B X w0;have hl:=ZaJ 0 hat rfl;have hb:=ZaJ 1 hat rfl;rw[uC]at hl hb;refine kw1 kO kc0 kc0 ?_;refine Zaf (λ(j:Nat)=>j<=l.length-1/\Zdu (Zky l boxes) j=true) (λ j=>[(0, .d (ptsD l)),(1, .d (Zlf boxes)),(5, .int (j+1))]) (λ j=>[]) (λ j=>l.length-j) 0 ?_ ?_ ?_
 ·exact⟨uH _,rfl⟩
 ·exact kN kc0 []
 ·rintro j ⟨hj,hinv⟩;rcases uE (j+1) l.length with hlt|hge
  ·obtain⟨p,hp⟩:=Zac (show j<l.length by omega);obtain⟨q,hq⟩:=Zac hlt;refine kw1 kO kc0 kc0 ?_;refine Zaf (λ(k:Nat)=>k<=boxes.length/\Zdu (ZjT boxes p q) k=true) (λ k=>[(0, .d (ptsD l)),(1, .d (Zlf boxes)),(5, .int (j+1)),(14, .d (Zlf boxes)),(15, .int boxes.length),(16, .int k)]) (λ k=>[]) (λ k=>boxes.length-k) 0 ?_ ?_ ?_
   ·exact⟨uH _,rfl⟩
   ·exact kN kc0 []
   ·rintro k ⟨hk,hinv2⟩;rcases uE k boxes.length with hkl|hkg
    ·obtain⟨b,hb⟩:=Zac hkl;have e1:((j:Int)+1-1).toNat=j:=by omega
     have e2:((j:Int)+1).toNat=j+1:=by omega
     refine kw kO (kc5 e1 e2 hp hq hb) (kc1 (ZvP b p q)) ?_
     repeat' first|exact True.intro|refine Bn.mk ?_ ?_|intro hc
     ·refine Zah ?_;exact(ZmJ (show j<l.length-1 by omega) (by simp only[Zky,hp,hq];exact ZmJ hkl (by simp[ZjT,hb,hc]))).symm
     ·refine⟨k+1,?_,eL [] _ _ (by refine⟨?_,?_⟩<;>(repeat' first|exact fmn|refine fmc ⟨(by first|rfl|(simp(disch:=omega) only[go_sem,simprocAttr,inL];first|done|omega|(congr 1;done))),?_⟩);done),?_⟩
      ·exact⟨by omega,ZmL hinv2 (by simp[ZjT,hb,hc])⟩
      ·omega
    ·have hkk:k=boxes.length:=by omega
     subst hkk;refine kw1 kO kc0 kc0 ?_;refine⟨j+1,?_,kN kc0 [],?_⟩
     ·exact⟨by omega,ZmL hinv (by simp only[Zky,hp,hq,hinv2])⟩
     ·omega
  ·refine kw1 kO kc0 kc0 ?_;refine Zah ?_;have:j=l.length-1:=by omega
   rw[ZgX,<-this,hinv]
end Go.Proofs.YtjjbhjnpeenbkaaGreatDoor.Rt
namespace Go.Proofs.YtjjbhjnpeenbkaaGreatDoor.Rt
open Go Go.PS Go.Proofs
set_option maxRecDepth 100000
attribute [local irreducible] Zad wpG Zaa Zag
def Zci (b:Bx)(x:Pt):Prop:=b.1<=x.1/\x.1<=b.2.2.1/\b.2.1<=x.2/\x.2<=b.2.2.2
theorem ZiX {b:Bx}{x y:Pt}(h1:Zci b x)(h2:Zci b y):Zci b (mid x y):=by
 simp only[Zci,mid]at*;omega
theorem ZBC {B:Bx}:∀(n:Nat) (a b c d:Pt),Zci B a->Zci B b->Zci B c->Zci B d->∀x∈Zcb n a b c d,Zci B x:=by
 intro n
 induction n with
 |zero=>intro a b c d ha hb hc hd x hx;simp only[Zcb,uS]at hx;subst hx;exact hd
 |succ n ih=>
  intro a b c d ha hb hc hd x hx;simp only[Zcb,yK]at hx;have h1:=ZiX ha hb;have h2:=ZiX hb hc;have h3:=ZiX hc hd;have h4:=ZiX h1 h2;have h5:=ZiX h2 h3;have h6:=ZiX h4 h5;rcases hx with hx|hx
  ·exact ih _ _ _ _ ha h1 h4 h6 x hx
  ·exact ih _ _ _ _ h6 h5 h3 hd x hx
theorem ZBD :∀(n:Nat) (a b c d:Pt),(Zcb n a b c d)[2^n-1]? =some d:=by
 intro n
 induction n with
 |zero=>intro a b c d;rfl
 |succ n ih=>
  intro a b c d;have hp:0<2^n:=Nat.pow_pos (by omega);simp only[Zcb];rw[qF (by rw[Zkq,Nat.pow_succ];omega),Zkq,show 2^(n+1)-1-2^n=2^n-1 by rw[Nat.pow_succ];omega];exact ih _ _ _ _
end Go.Proofs.YtjjbhjnpeenbkaaGreatDoor.Rt
