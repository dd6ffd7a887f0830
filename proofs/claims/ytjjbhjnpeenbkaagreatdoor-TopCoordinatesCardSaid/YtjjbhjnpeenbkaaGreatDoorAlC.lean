/- The network of levels. -/
import Derived.Test.YtjjbhjnpeenbkaaGreatDoorSxZc
import Derived.Test.YtjjbhjnpeenbkaaGreatDoorPSCode
import Derived.Test.YtjjbhjnpeenbkaaGreatDoorSo
import Derived.Test.YtjjbhjnpeenbkaaGreatDoorTypes
import Derived.Test.YtjjbhjnpeenbkaaGreatDoorSxJ
import Derived.Test.YtjjbhjnpeenbkaaGreatDoorN
import Derived.Test.YtjjbhjnpeenbkaaGreatDoorBaF
set_option linter.unusedSimpArgs false
set_option linter.unusedVariables false
set_option maxHeartbeats 16000000
namespace Go.Proofs.YtjjbhjnpeenbkaaGreatDoor.Al
open Go Go.PS Go.Proofs
open Sx (Bd bdD ZbN Net nD)
set_option maxRecDepth 100000
attribute [local irreducible] Zac wpG Zaa Zag
def Zf2 (a:Lv)(k:Nat)(x:Arc):List Bd:=[(((tot a.2.1+k:Nat):Int),x.1,0,Zb3 a.1 x),(((tot a.2.1+k:Nat):Int),x.2,0,Zb3 a.1 x)]
def Zkq (a:Lv)(k:Nat):List Bd:=match a.2.2.1[k]? with
 |some x=>Zf2 a k x
 |none=>[]
def ZfT (a:Lv)(k:Nat):List Bd:=Za1 (Zkq a) k
theorem ZlJ {a:Lv}{k:Nat}{x:Arc}(h:a.2.2.1[k]? =some x):ZfT a (k+1)=ZfT a k++Zf2 a k x:=by
 rw[ZfT,Za1,Zkq,h];rfl
theorem Zms (a:Lv):∀k,k<=a.2.2.1.length->(ZfT a k).length=2*k
 |0,_=>rfl
 |k+1,hk=>by
  obtain⟨x,hx⟩:=Zad (show k<a.2.2.1.length by omega);rw[ZlJ hx,uC,Zms a k (by omega),Zf2];simp;omega
def Zjk (a:Lv)(ws:List Int)(sep:Int):Net:=(((tot a.2.1+a.2.2.1.length:Nat):Int),ZfT a a.2.2.1.length++Zbi ws sep a.2.1 a.2.1.length)
theorem ZwB (a:Lv)(k:Nat)(x:Arc):∀d,d∈[bdD (((tot a.2.1+k:Nat):Int),x.1,0,Zb3 a.1 x),bdD (((tot a.2.1+k:Nat):Int),x.2,0,Zb3 a.1 x)]->d.cells.length=4:=by
 intro d hd;simp only[yK,jQ,Cv]at hd;rcases hd with rfl|rfl<;>rfl
theorem Zp7 (ws:List Int)(sep:Int)(ls:List (List Int))(k:Nat):∀q,q∈Zbi ws sep ls k->q.2.2.2=0:=by
 intro q hq;obtain⟨i,_,hq⟩:=ZfO.1 hq;rw[prL]at hq;split at hq
 ·obtain⟨j,_,rfl⟩:=uN.1 hq;rfl
 ·simp at hq
theorem Zwr (a:Lv)(ws:List Int)(sep:Int)(hw:wide a)(h:VA a ws sep)(hal:a.2.2.1.length<=1000):Zaa Tryz.prog 57 [lvD a,Zab ws, .int sep] (.tup [nD (Zjk a ws sep), .int 0]):=by
 have hv:=Zkt a ws sep hw;rw[h.ok]at hv;have ht:=h.tt;have hvx:=ZmD a (by omega);have hps:=Zrq a ws sep h;have hwt:=ZuV a;have hAl:=Zjr ws sep a.2.1 a.2.1.length (uH _);rw[yF]at hAl;rw[Zjk];have hab:=Zms a;have hsa:= @ZlJ a;have hbc:=ZwB a;revert hab hsa hbc;unfold Zf2;generalize ZfT a=AB;intro hab hsa hbc;obtain⟨n,ls,ar,cs⟩:=a;dsimp only at ht hvx hps hwt hAl hab hsa hbc hal|-;have hpz:=Zp7 ws sep ls ls.length;generalize Zbi ws sep ls ls.length=PL at hps hAl hpz|-;refine kE Tryz.func57 ?_;intro hat B X w0;have e0:(tot ls:Int)+ar.length=((tot ls+ar.length:Nat):Int):=by omega
 refine kw1 kO (kc1 e0) (kc2 hv hvx) ?_;refine Zas _ (Zcy 8 1 901 4 rfl rfl rfl) ?_;refine Zaf (λ(k:Nat)=>k<=ar.length) (λ k=>[(1, .d (Zab ws)),(2, .int sep),(3, .ptr 3 0 0 0),(6, .ptr 6 0 0 0),(8, .ptr 8 0 0 0),(29, .d (Zak ar)),(30, .int ar.length),(31, .int k)]) (λ k=>[(3, .cells [.int n, .d (Zae ls), .d (Zak ar), .d (Zae cs)]),(6, .cells [.int 0, .nilS]),(8, .cells [.int ((tot ls+ar.length:Nat):Int), .ref 901 4 0 (AB k).length (AB k).length]),(901, .row 4 ((AB k).map bdD))]) (λ k=>ar.length-k) 0 ?_ ?_ ?_
 ·exact uI _
 ·have hz:AB 0=[]:=jO.1 (hab 0 (by omega));exact kN (kc1 hz) []
 ·intro k hk;have hkl:=hab k hk;rcases uF k ar.length with hlt|hge
  ·obtain⟨x,hx⟩:=Zad hlt;have hs:=hsa hx;have hc1:=hbc k x;have hw1:=hwt x;have e1:(tot ls:Int)+k=((tot ls+k:Nat):Int):=by omega
   revert hs hc1 hw1;generalize Zb3 n x=wg;intro hs hc1 hw1;refine kw1 kO (kc3 hx e1 @Zat) (kc2 hvx hw1) ?_;refine⟨k+1,?_,kN (kc7 hs @uC.{0} @uX.{0} @uZ.{0} @uU.{0,0} @uV.{0,0} @yS.{0,0}) [(901,56)],?_⟩
   ·omega
   ·omega
  ·have hk:k=ar.length:=by omega
   subst hk;obtain⟨C,hC⟩:∃C:Nat->List Bd,C=λ j=>AB ar.length++PL.take j:=⟨_,rfl⟩
   have hC0:C 0=AB ar.length:=by rw[hC];simp
   have hCe:AB ar.length++PL=C PL.length:=by rw[hC];simp
   have hCs:∀(j:Nat) q,PL[j]? =some q->C (j+1)=C j++[q]:=λ j q hq=>by simp only[hC];rw[ZaB hq,yO]
   have hCl:∀j,(C j).length<=3000:=λ j=>by simp only[hC];rw[uC,uS];omega
   rw[hCe];refine kw1 kO kc0 (kc1 hps) ?_;refine Zaf (λ(j:Nat)=>j<=PL.length) (λ j=>[(6, .ptr 6 0 0 0),(8, .ptr 8 0 0 0),(62, .d (.sl (PL.map Zis))),(63, .int PL.length),(64, .int j)]) (λ j=>[(6, .cells [.int 0, .nilS]),(8, .cells [.int ((tot ls+ar.length:Nat):Int), .ref 901 4 0 (C j).length (C j).length]),(901, .row 4 ((C j).map bdD))]) (λ j=>PL.length-j) 0 ?_ ?_ ?_
   ·exact uI _
   ·exact kN (kc1 hC0) []
   ·intro j hj;have hlj:=hCl j;rcases uF j PL.length with hlt|hge
    ·obtain⟨⟨u,v,p,z⟩,hq⟩:=Zad hlt;have hz:=hpz _ (uA hq);dsimp only at hz;subst hz;have hs:=hCs j _ hq;refine kw1 kO (kc2 hq @Zat) kc0 ?_;refine⟨j+1,?_,kN (kc6 hs @uC.{0} @yT.{0} @uU.{0,0} @uV.{0,0} @yS.{0,0}) [(901,78)],?_⟩
     ·omega
     ·omega
    ·have hj:j=PL.length:=by omega
     subst hj;refine kw1 kO kc0 kc0 ?_;refine⟨_,rfl,⟨_,_,_,_,rfl,?_⟩,?_,trivial⟩
     ·simp(disch:=omega) only[go_sem,simprocAttr];rw[uG (by simp)]
     ·rfl
theorem ZtG {a:Lv}{ws:List Int}{sep:Int}(h:VA a ws sep)(u v:Int)(hu:0<=u)(hv:0<=v):Zaa Tryz.prog 65 [Zab ws, .int sep, .int u, .int v] (.int (apF ws sep u v)):=by
 have w1:=Zq1 ws u hu;have w2:=Zq1 ws v hv;have b1:=Zii h u;have b2:=Zii h v;have b3:=h.sep;have hq:(Zdx ws u+Zdx ws v+1).tdiv 2+sep=apF ws sep u v:=by
  rw[apF,Cj (by omega)]
 have hap:=ZhR h u v;refine kE Tryz.func65 ?_;intro hat B X w0;refine kw1 kO (kc1 hq) (kc2 w1 w2) ?_;exact rfl
end Go.Proofs.YtjjbhjnpeenbkaaGreatDoor.Al
namespace Go.Proofs.YtjjbhjnpeenbkaaGreatDoor.Al
open Go Go.PS Go.Proofs
open Sx (Bd ZfR ZfK)
set_option maxRecDepth 100000
attribute [local irreducible] Zac wpG Zaa Zag
def inX (n:Int):Bool:=decide (-34359738368<=n/\n<=34359738368)
def ZbW (a:Lv)(x:List Int):Bool:=decide (x.length=tot a.2.1)&& !x.any λ n=> !inX n
theorem ZrP (a:Lv)(x:List Int)(h:tot a.2.1<=1000000):Zaa Tryz.prog 61 [lvD a,Zab x] (.bool (ZbW a x)):=by
 have hv:=ZmD a h;by_cases hl:x.length=tot a.2.1
 ·have e:ZbW a x= !x.any λ n=> !inX n:=by simp[ZbW,hl]
  rw[e];have hl':(x.length:Int)=tot a.2.1:=by omega
  refine kE Tryz.func61 ?_;intro hat B X w0;refine kw1 kO (kc1 @hl') (kc1 hv) ?_;refine Zaf (λ(k:Nat)=>k<=x.length/\∀(j:Nat) y,j<k->x[j]? =some y->(!inX y)=false) (λ k=>[(12, .d (Zab x)),(13, .int x.length),(14, .int k)]) (λ k=>[]) (λ k=>x.length-k) 0 ?_ ?_ ?_
  ·exact⟨uI _,λ j y h=>by omega⟩
  ·exact kN (kc1 @hl') []
  ·rintro k ⟨hk,hinv⟩;rcases uF k x.length with hlt|hge
   ·obtain⟨y,hy⟩:=Zad hlt;refine kw kO (kc1 hy) kc0 ?_
    repeat' first|exact True.intro|refine Bn.mk ?_ ?_|intro hc
    all_goals try
     refine Zaj ?_;rw[Zb8 hy (by simp[inX];omega)];rfl
    refine⟨k+1,?_,eL [] _ _ (by refine⟨?_,?_⟩<;>(repeat' first|exact fmn|refine fmc ⟨(by first|rfl|(simp(disch:=omega) only[go_sem,simprocAttr,inL];first|done|omega|(congr 1;done))),?_⟩);done),?_⟩
    ·exact⟨by omega,Zbe hinv hy (by simp[inX];omega)⟩
    ·omega
   ·refine kw1 kO kc0 kc0 ?_;refine Zaj ?_;rw[Zcq (λ j y hj=>hinv j y (by omega))];rfl
 ·have hl':¬(x.length:Int)=tot a.2.1:=by omega
  refine kE Tryz.func61 ?_;intro hat B X w0;have h1:=ZaU 1 hat rfl;rw[uD]at h1;refine kw1 kO (kc1 @hl') (kc1 hv) ?_;refine Zaj ?_;simp[ZbW,hl]
theorem ZlF (a:Lv)(x:List Int)(h:tot a.2.1<=1000000):Zaa Tryz.prog 64 [lvD a,Zab x] (.bool (ZbW a x)):=by
 have hv:=ZAk a h;by_cases hl:x.length=tot a.2.1
 ·have e:ZbW a x= !x.any λ n=> !inX n:=by simp[ZbW,hl]
  rw[e];have hl':(x.length:Int)=tot a.2.1:=by omega
  refine kE Tryz.func64 ?_;intro hat B X w0;refine kw1 kO (kc1 @hl') (kc1 hv) ?_;refine Zaf (λ(k:Nat)=>k<=x.length/\∀(j:Nat) y,j<k->x[j]? =some y->(!inX y)=false) (λ k=>[(1, .d (Zab x)),(5, .int k)]) (λ k=>[]) (λ k=>x.length-k) 0 ?_ ?_ ?_
  ·exact⟨uI _,λ j y h=>by omega⟩
  ·exact kN kc0 []
  ·rintro k ⟨hk,hinv⟩;rcases uF k x.length with hlt|hge
   ·obtain⟨y,hy⟩:=Zad hlt;refine kw kO (kc1 hy) kc0 ?_
    repeat' first|exact True.intro|refine Bn.mk ?_ ?_|intro hc
    all_goals try
     refine Zaj ?_;rw[Zb8 hy (by simp[inX];omega)];rfl
    refine⟨k+1,?_,eL [] _ _ (by refine⟨?_,?_⟩<;>(repeat' first|exact fmn|refine fmc ⟨(by first|rfl|(simp(disch:=omega) only[go_sem,simprocAttr,inL];first|done|omega|(congr 1;done))),?_⟩);done),?_⟩
    ·exact⟨by omega,Zbe hinv hy (by simp[inX];omega)⟩
    ·omega
   ·refine kw1 kO kc0 kc0 ?_;refine Zaj ?_;rw[Zcq (λ j y hj=>hinv j y (by omega))];rfl
 ·have hl':¬(x.length:Int)=tot a.2.1:=by omega
  refine kE Tryz.func64 ?_;intro hat B X w0;have h1:=ZaU 1 hat rfl;rw[uD]at h1;refine kw1 kO (kc1 @hl') (kc1 hv) ?_;refine Zaj ?_;simp[ZbW,hl]
structure Fits (a:Lv)(x:List Int):Prop where
 len:x.length=tot a.2.1
 at':∀v:Int,0<=v->v<tot a.2.1->x[v.toNat]? =some (at0 x v)/\-34359738368<=at0 x v/\at0 x v<=34359738368
theorem Fits.of {a:Lv}{x:List Int}(h:ZbW a x=true):Fits a x:=by
 simp only[ZbW,uK,uE,yD]at h;refine⟨h.1,λ v h0 h1=>?_⟩;have hg:=Zdu (r:=x) h0 (by omega);have:=yR.1 h.2 _ (uA hg);simp only[inX,yD,Af,uE,Bool.not_eq_false]at this;exact⟨hg,this⟩
def Zdn (d:Int):Int:=max d (-d)
def ZfH (a:Lv)(x:List Int)(e:Arc):Int:=Zb3 a.1 e*Zdn (at0 x e.1-at0 x e.2)
def Zdg (a:Lv)(x:List Int):Nat->Int
 |0=>0
 |k+1=>Zdg a x k+match a.2.2.1[k]? with|some e=>ZfH a x e|none=>0
def ZgO (a:Lv)(x:List Int):Int:=if Zaq a&&ZbW a x then Zdg a x a.2.2.1.length else 0
theorem ZkG (n:Int)(e:Arc):1<=Zb3 n e/\Zb3 n e<=8:=by
 rw[Zb3];repeat' split
 all_goals omega
theorem ZrA {a:Lv}{x:List Int}(hv:Zaq a=true)(hf:Fits a x){e:Arc}(he:e∈a.2.2.1):0<=ZfH a x e/\ZfH a x e<=549755813888:=by
 have h1:=Zn1 hv e he;have h2:=hf.at' e.1 h1.1.1 h1.1.2;have h3:=hf.at' e.2 h1.2.1 h1.2.2;have h4:=ZkG a.1 e;have h5:0<=Zdn (at0 x e.1-at0 x e.2)/\Zdn (at0 x e.1-at0 x e.2)<=68719476736:=by rw[Zdn];omega
 rw[ZfH];refine⟨Int.mul_nonneg (by omega) h5.1,?_⟩;have h6:Zb3 a.1 e*Zdn (at0 x e.1-at0 x e.2)<=8*Zdn (at0 x e.1-at0 x e.2):=jU h4.2 h5.1;omega
theorem ZpR {a:Lv}{x:List Int}(hv:Zaq a=true)(hf:Fits a x):∀k,k<=a.2.2.1.length->0<=Zdg a x k/\Zdg a x k<=549755813888*k
 |0,_=>by simp[Zdg]
 |k+1,hk=>by
  obtain⟨e,he⟩:=Zad (show k<a.2.2.1.length by omega);have h1:=ZpR hv hf k (by omega);have h2:=ZrA hv hf (uA he);rw[Zdg,he];dsimp only;omega
theorem ZwL (a:Lv)(x:List Int)(hw:wide a)(h:(Zaq a&&ZbW a x)=false):Zaa Tryz.prog 20 [lvD a,Zab x] (.int 0):=by
 have hv:=ZlP a hw;rw[<-Zmz]at hv;rcases hva:Zaq a with _|_
 ·rw[hva]at hv;refine kE Tryz.func20 ?_;intro hat B X w0;refine kw1 kO kc0 (kc1 hv) ?_;exact rfl
 ·rw[hva]at hv h;have hf:=ZlF a x (by have:=(ZkE hva).2.1;omega);rw[kJ]at h;rw[h]at hf;refine kE Tryz.func20 ?_;intro hat B X w0;refine kw1 kO kc0 (kc2 hv hf) ?_;exact rfl
theorem ZuM (a:Lv)(x:List Int)(hw:wide a)(hva:Zaq a=true)(hfa:ZbW a x=true)(hal:a.2.2.1.length<=1000):Zaa Tryz.prog 20 [lvD a,Zab x] (.int (Zdg a x a.2.2.1.length)):=by
 have hv:=ZlP a hw;rw[<-Zmz,hva]at hv;have hf:=ZlF a x (by have:=(ZkE hva).2.1;omega);rw[hfa]at hf;have hF:=Fits.of hfa;have hat':=hF.at';have hxl:=hF.len;have hwt:=Zwa a;have hin:=ZpR hva hF;have hti:=λ e he=>ZrA hva hF (e:=e) he
 have harc:=Zn1 hva;have hcs:∀(k:Nat) e,a.2.2.1[k]? =some e->Zdg a x (k+1)=Zdg a x k+ZfH a x e:=λ k e he=>by rw[Zdg,he]
 have hct:∀e,ZfH a x e=Zb3 a.1 e*Zdn (at0 x e.1-at0 x e.2):=λ e=>rfl
 have hcz:Zdg a x 0=0:=rfl;revert hin hti hcs hct hcz;generalize Zdg a x=S;generalize ZfH a x=T;intro hin hti hcs hct hcz;have htt:=(ZkE hva).2.1;obtain⟨n,ls,ar,cs⟩:=a;dsimp only at hat' hxl hwt hin hti harc hcs hct hal htt|-;refine kE Tryz.func20 ?_;intro hat B X w0;refine kw1 kO kc0 (kc2 hv hf) ?_;refine Zaf (λ(k:Nat)=>k<=ar.length) (λ k=>[(1, .d (Zab x)),(2, .ptr 2 0 0 0),(5, .int (S k)),(6, .int k)]) (λ k=>[(2, .cells [.int n, .d (Zae ls), .d (Zak ar), .d (Zae cs)])]) (λ k=>ar.length-k) 0 ?_ ?_ ?_
 ·exact uI _
 ·exact kN (kc1 hcz) []
 ·intro k hk;have hsk:=hin k hk;rcases uF k ar.length with hlt|hge
  ·obtain⟨⟨p,q⟩,he⟩:=Zad hlt;have hm:=uA he;have ha:=harc _ hm;dsimp only at ha;obtain⟨p,rfl⟩:∃p':Nat,p=p':=⟨p.toNat,by omega⟩;obtain⟨q,rfl⟩:∃q':Nat,q=q':=⟨q.toNat,by omega⟩;have g1:=hat' p ha.1.1 ha.1.2;have g2:=hat' q ha.2.1 ha.2.2;rw[uL]at g1 g2;obtain⟨g1,b1⟩:=g1;obtain⟨g2,b2⟩:=g2;have hw1:=hwt ((p:Int),(q:Int));have hs:=hcs k _ he;have ht:=hti _ hm;have hc2:=hct ((p:Int),(q:Int));have hwi:=ZkG n ((p:Int),(q:Int));have hs2:=hin (k+1) hlt;revert hw1 hs ht hc2 hwi g1 g2 b1 b2;dsimp only;generalize Zb3 n ((p:Int),(q:Int))=wg;generalize T ((p:Int),(q:Int))=tv;generalize at0 x (p:Int)=xp;generalize at0 x (q:Int)=xq;intro g1 b1 g2 b2 hw1 hs ht hc2 hwi;have hneg:(if xp<xq then xq else xp)-(if xq<xp then xq else xp)=Zdn (xp-xq):=by rw[Zdn];omega
   have hc3:wg*Zdn (xp-xq)=tv:=hc2.symm;refine kw1 kO (kc5 he g1 g2 hneg hc3) (kc1 hw1) ?_;refine⟨k+1,?_,kN (kc1 hs) [],?_⟩
   ·omega
   ·omega
  ·have hk:k=ar.length:=by omega
   subst hk;refine kw1 kO kc0 kc0 ?_;exact rfl
def ZdQ (x:List Int)(q:Bd):Bool:=decide (at0 x q.2.1-at0 x q.1<q.2.2.1)
def Zf0 (a:Lv)(ws:List Int)(sep:Int)(x:List Int):Int:=if Zb7 a ws sep then(if ZbW a x then(if(Zbi ws sep a.2.1 a.2.1.length).any (ZdQ x)then 14 else 0)else 3)else 1
theorem Zou {a:Lv}{ws:List Int}{sep:Int}(h:VA a ws sep)(k:Nat):∀q,q∈Zbi ws sep a.2.1 k->(0<=q.1/\q.1<tot a.2.1)/\(0<=q.2.1/\q.2.1<tot a.2.1)/\0<=q.2.2.1/\q.2.2.1<=2097153:=by
 intro q hq;obtain⟨i,_,hq⟩:=ZfO.1 hq;rw[prL]at hq;split at hq
 ·rename_i x hx;obtain⟨j,hj,rfl⟩:=uN.1 hq;have hj:=yA.1 hj;have g1:=ZaK (r:=x) (i:=j) (by omega);have g2:=ZaK (r:=x) (i:=j+1) (by omega);have hm:=uA hx;exact⟨h.vert x hm _ (uA g1),h.vert x hm _ (uA g2),ZhR h _ _⟩
 ·simp at hq
theorem ZB0 (a:Lv)(ws:List Int)(sep:Int)(x:List Int)(hw:wide a)(h:Zb7 a ws sep=false):Zaa Tryz.prog 18 [lvD a,Zab ws, .int sep,Zab x] (.int 1):=by
 have hv:=Zkt a ws sep hw;rw[h]at hv;refine kE Tryz.func18 ?_;intro hat B X w0;refine kw1 kO kc0 (kc1 hv) ?_;exact rfl
theorem ZxF (a:Lv)(ws:List Int)(sep:Int)(x:List Int)(hw:wide a)(h:Zb7 a ws sep=false):Zaa Tryz.prog 19 [lvD a,Zab ws, .int sep,Zab x] (.int 1):=by
 have hv:=Zoq a ws sep hw;rw[h]at hv;refine kE Tryz.func19 ?_;intro hat B X w0;refine kw1 kO kc0 (kc1 hv) ?_;exact rfl
theorem Zyr (a:Lv)(ws:List Int)(sep:Int)(x:List Int)(hw:wide a)(h:VA a ws sep)(hf:ZbW a x=false):Zaa Tryz.prog 18 [lvD a,Zab ws, .int sep,Zab x] (.int 3):=by
 have hv:=Zkt a ws sep hw;rw[h.ok]at hv;have hx:=ZrP a x (by have:=h.tt;omega);rw[hf]at hx;refine kE Tryz.func18 ?_;intro hat B X w0;refine kw1 kO kc0 (kc2 hv hx) ?_;exact rfl
theorem ZvO (a:Lv)(ws:List Int)(sep:Int)(x:List Int)(hw:wide a)(h:VA a ws sep)(hf:ZbW a x=false):Zaa Tryz.prog 19 [lvD a,Zab ws, .int sep,Zab x] (.int 3):=by
 have hv:=Zoq a ws sep hw;rw[h.ok]at hv;have hx:=ZlF a x (by have:=h.tt;omega);rw[hf]at hx;refine kE Tryz.func19 ?_;intro hat B X w0;refine kw1 kO kc0 (kc2 hv hx) ?_;exact rfl
theorem ZBe (a:Lv)(ws:List Int)(sep:Int)(x:List Int)(hw:wide a)(h:VA a ws sep)(hfa:ZbW a x=true):Zaa Tryz.prog 18 [lvD a,Zab ws, .int sep,Zab x] (.int (if(Zbi ws sep a.2.1 a.2.1.length).any (ZdQ x)then 14 else 0)):=by
 have hv:=Zkt a ws sep hw;rw[h.ok]at hv;have hx:=ZrP a x (by have:=h.tt;omega);rw[hfa]at hx;have hps:=Zrq a ws sep h;have hF:=Fits.of hfa;have hat':=hF.at';have hxl:=hF.len;have htt:=h.tt;have hin:=Zou h a.2.1.length;have hAl:=Zjr ws sep a.2.1 a.2.1.length (uH _);rw[yF]at hAl;generalize Zbi ws sep a.2.1 a.2.1.length=PL at hps hin hAl|-;refine kE Tryz.func18 ?_;intro hat B X w0;refine kw1 kO kc0 (kc3 hv hx hps) ?_;refine Zaf (λ(j:Nat)=>j<=PL.length/\∀(i:Nat) y,i<j->PL[i]? =some y->ZdQ x y=false) (λ j=>[(3, .d (Zab x)),(23, .d (.sl (PL.map Zis))),(24, .int PL.length),(25, .int j)]) (λ j=>[]) (λ j=>PL.length-j) 0 ?_ ?_ ?_
 ·exact⟨uI _,λ i y h=>by omega⟩
 ·exact kN kc0 []
 ·rintro j ⟨hj,hinv⟩;rcases uF j PL.length with hlt|hge
  ·obtain⟨⟨u,v,p,z⟩,hq⟩:=Zad hlt;have hi:=hin _ (uA hq);dsimp only at hi;obtain⟨u,rfl⟩:∃p':Nat,u=p':=⟨u.toNat,by omega⟩;obtain⟨v,rfl⟩:∃p':Nat,v=p':=⟨v.toNat,by omega⟩;have g1:=hat' u hi.1.1 hi.1.2;have g2:=hat' v hi.2.1.1 hi.2.1.2;rw[uL]at g1 g2;obtain⟨g1,b1⟩:=g1;obtain⟨g2,b2⟩:=g2;have hb:ZdQ x ((u:Int),(v:Int),p,z)=decide (at0 x (v:Int)-at0 x (u:Int)<p):=rfl;revert g1 b1 g2 b2 hb;generalize at0 x (u:Int)=xu;generalize at0 x (v:Int)=xv;intro g1 b1 g2 b2 hb;by_cases c:xv-xu<p
   ·rw[Zb8 hq (by rw[hb];exact yN c),if_pos rfl];refine kw1 kO (kc4 hq g1 g2 c) kc0 ?_;exact rfl
   ·refine kw1 kO (kc4 hq g1 g2 c) kc0 ?_;refine⟨j+1,?_,kN kc0 [],?_⟩
    ·exact⟨by omega,Zbe hinv hq (by rw[hb];exact yE c)⟩
    ·omega
  ·rw[Zcq (λ i y hi=>hinv i y (by omega)),if_neg (by decide)];refine kw1 kO kc0 kc0 ?_;exact rfl
theorem ZCp (a:Lv)(ws:List Int)(sep:Int)(x:List Int)(hw:wide a)(h:VA a ws sep)(hfa:ZbW a x=true):Zaa Tryz.prog 19 [lvD a,Zab ws, .int sep,Zab x] (.int (if(Zbi ws sep a.2.1 a.2.1.length).any (ZdQ x)then 14 else 0)):=by
 have hv:=Zoq a ws sep hw;rw[h.ok]at hv;have hx:=ZlF a x (by have:=h.tt;omega);rw[hfa]at hx;have hF:=Fits.of hfa;have hat':=hF.at';have hxl:=hF.len;have htt:=h.tt;have hl:=h.ls;have hvt:=h.vert;have hds:=ZtG h;have hap:=ZhR h;have hmem:∀k y,k<a.2.1.length->y∈Zbi ws sep a.2.1 (k+1)->y∈Zbi ws sep a.2.1 a.2.1.length:=λ k y hk hy=>by
  obtain⟨i,h1,h2⟩:=ZfO.1 hy;exact ZfO.2 ⟨i,by omega,h2⟩
 obtain⟨n,ls,ar,cs⟩:=a;dsimp only at hat' hxl htt hl hvt hmem|-;refine kE Tryz.func19 ?_;intro hat B X w0;refine kw1 kO kc0 (kc2 hv hx) ?_;refine Zaf (λ(i:Nat)=>i<=ls.length/\∀q,q∈Zbi ws sep ls i->ZdQ x q=false) (λ i=>[(1, .d (Zab ws)),(2, .int sep),(3, .d (Zab x)),(4, .ptr 4 0 0 0),(9, .int i)]) (λ i=>[(4, .cells [.int n, .d (Zae ls), .d (Zak ar), .d (Zae cs)])]) (λ i=>ls.length-i) 0 ?_ ?_ ?_
 ·exact⟨uI _,λ q hq=>by simp[Zbi,Za1]at hq⟩
 ·exact kN kc0 []
 ·rintro i ⟨hi,hinv⟩;rcases uF i ls.length with hlt|hge
  ·obtain⟨y,hy⟩:=Zad hlt;have hyv:=hvt y (uA hy);have hyl:=ZcU (uA hy);refine kw1 kO (kc1 hy) kc0 ?_;refine Zaf (λ(j:Nat)=>1<=j/\j-1<=y.length-1/\∀q,q∈ZdP ws sep ls i y j->ZdQ x q=false) (λ j=>[(1, .d (Zab ws)),(2, .int sep),(3, .d (Zab x)),(4, .ptr 4 0 0 0),(9, .int i),(10, .int j)]) (λ j=>[(4, .cells [.int n, .d (Zae ls), .d (Zak ar), .d (Zae cs)])]) (λ j=>y.length-j) 1 ?_ ?_ ?_
   ·exact⟨uH _,by omega,λ q hq=>hinv q (by rwa [ZoR]at hq)⟩
   ·exact kN kc0 []
   ·rintro j ⟨hj1,hj,hinv2⟩;rcases uF j y.length with hjl|hjl
    ·obtain⟨u,k1⟩:=Zad (show j-1<y.length by omega);obtain⟨v,k2⟩:=Zad hjl;have i1:=hyv _ (uA k1);have i2:=hyv _ (uA k2);obtain⟨u,rfl⟩:∃p':Nat,u=p':=⟨u.toNat,by omega⟩;obtain⟨v,rfl⟩:∃p':Nat,v=p':=⟨v.toNat,by omega⟩;have g1:=hat' u i1.1 i1.2;have g2:=hat' v i2.1 i2.2;rw[uL]at g1 g2;obtain⟨g1,b1⟩:=g1;obtain⟨g2,b2⟩:=g2;have e1:(j:Int)-1=(j-1:Nat):=by omega
     have hd:=hds u v i1.1 i2.1;have hp:=ZoC (ws:=ws) (sep:=sep) (ls:=ls) (k:=i) hj1 k1 k2;have hq:=hap u v;have hb:ZdQ x ((u:Int),(v:Int),apF ws sep u v,0)=decide (at0 x (v:Int)-at0 x (u:Int)<apF ws sep u v):=rfl;have hall:((u:Int),(v:Int),apF ws sep u v,(0:Int))∈Zbi ws sep ls ls.length:=by
      refine hmem i _ hlt ?_;rw[ZnO hy,yH]
      right
      rw[prN,uN];refine⟨j-1,yA.2 (by omega),?_⟩;have:=Zp3 (ws:=ws) (sep:=sep) hj1 k1 k2;obtain⟨i',rfl⟩:∃i',j=i'+1:=⟨j-1,by omega⟩;rw[Zrk,kB]at this;exact List.singleton_inj.1 (List.append_cancel_left this)
     revert g1 b1 g2 b2 hb;generalize at0 x (u:Int)=xu;generalize at0 x (v:Int)=xv;intro g1 b1 g2 b2 hb;by_cases c:xv-xu<apF ws sep u v
     ·rw[show((Zbi ws sep ls ls.length).any (ZdQ x))=true from gM.2 ⟨_,hall,by rw[hb];exact yN c⟩,if_pos rfl];refine kw1 kO (kc7 hy e1 k1 k2 g1 g2 c) (kc1 hd) ?_;exact rfl
     ·refine kw1 kO (kc7 hy e1 k1 k2 g1 g2 c) (kc1 hd) ?_;refine⟨j+1,?_,kN kc0 [],?_⟩
      ·refine⟨by omega,by omega,λ q hq=>?_⟩;rw[hp,yH,uR]at hq;rcases hq with hq|rfl
       ·exact hinv2 q hq
       ·rw[hb];exact yE c
      ·omega
    ·have hj:j-1=y.length-1:=by omega
     have hs:=ZqX (ws:=ws) (sep:=sep) hy hj;refine kw1 kO (kc1 hy) kc0 ?_;refine⟨i+1,?_,kN kc0 [],?_⟩
     ·exact⟨by omega,λ q hq=>hinv2 q (by rwa [hs]at hq)⟩
     ·omega
  ·have hi:i=ls.length:=by omega
   subst hi;rw[show((Zbi ws sep ls ls.length).any (ZdQ x))=false from yR.2 λ q hq=>by rw[hinv q hq];decide,if_neg (by decide)];refine kw1 kO kc0 kc0 ?_;exact rfl
theorem Zxq (a:Lv)(ws:List Int)(sep:Int)(x:List Int)(hw:wide a):Zaa Tryz.prog 18 [lvD a,Zab ws, .int sep,Zab x] (.int (Zf0 a ws sep x)):=by
 rw[Zf0];rcases h:Zb7 a ws sep with _|_
 ·rw[if_neg (by decide)];exact ZB0 a ws sep x hw h
 ·rw[if_pos rfl];rcases hf:ZbW a x with _|_
  ·rw[if_neg (by decide)];exact Zyr a ws sep x hw (.of h) hf
  ·rw[if_pos rfl];exact ZBe a ws sep x hw (.of h) hf
theorem ZpW (a:Lv)(ws:List Int)(sep:Int)(x:List Int)(hw:wide a):Zaa Tryz.prog 19 [lvD a,Zab ws, .int sep,Zab x] (.int (Zf0 a ws sep x)):=by
 rw[Zf0];rcases h:Zb7 a ws sep with _|_
 ·rw[if_neg (by decide)];exact ZxF a ws sep x hw h
 ·rw[if_pos rfl];rcases hf:ZbW a x with _|_
  ·rw[if_neg (by decide)];exact ZvO a ws sep x hw (.of h) hf
  ·rw[if_pos rfl];exact ZCp a ws sep x hw (.of h) hf
theorem ZnL (a:Lv)(x:List Int)(hw:wide a)(hal:a.2.2.1.length<=1000):Zaa Tryz.prog 20 [lvD a,Zab x] (.int (ZgO a x)):=by
 rw[ZgO];rcases h:Zaq a&&ZbW a x with _|_
 ·rw[if_neg (by decide)];exact ZwL a x hw h
 ·rw[if_pos rfl];rw[uK]at h;exact ZuM a x hw h.1 h.2 hal
end Go.Proofs.YtjjbhjnpeenbkaaGreatDoor.Al
namespace Go.Proofs.YtjjbhjnpeenbkaaGreatDoor.Al
open Go Go.PS Go.Proofs
open Sx (Bd bdD ZbN Net nD ZfR ZfK Zbl lowN_le Zg6 Zks)
set_option maxRecDepth 100000
attribute [local irreducible] Zac wpG Zaa Zag
def ZcY (r:List Int)(k:Nat):List (Int×Int):=(List.range k).map λ v:Nat=>((v:Int),at0 r v)
theorem Zt8 (r:List Int)(k:Nat):(ZcY r k).length=k:=by simp[ZcY]
theorem ZyA (r:List Int):ZcY r 0=[]:=rfl
theorem Zwk {r:List Int}{k j:Nat}(h:j<k):(ZcY r k).getD j (0,0)=((j:Int),at0 r j):=by
 rw[gR,ZcY,uJ,qM h];rfl
theorem ZsI {x y:Int}:∀{l:List (Int×Int)},(∀p,p∈l->p.1≠x)->ZdL l x y=l++[(x,y)]
 |[],_=>rfl
 |(a,b)::l,h=>by
  rw[ZdL,if_neg (show¬a=x from h (a,b) (by simp)),ZsI (l:=l) (λ p hp=>h p (uO _ hp))];rfl
theorem Zzi (r:List Int)(k:Nat):ZdL (ZcY r k) (k:Int) (at0 r k)=ZcY r (k+1):=by
 rw[ZsI]
 ·simp[ZcY,gB]
 ·intro p hp;obtain⟨v,hv,rfl⟩:=uN.1 hp;have:=yA.1 hv;dsimp only;omega
theorem ZsT {x y:Int}:∀{l m:List (Int×Int)},(∀p,p∈l->p.1≠x)->Za5 (l++(x,y)::m) x=y
 |[],_,_=>by simp[Za5]
 |(a,b)::l,m,h=>by
  rw[jH,Za5,if_neg (show¬a=x from h (a,b) (by simp)),ZsT (l:=l) (λ p hp=>h p (uO _ hp))]
theorem ZpA {r:List Int}:∀{k v:Nat},v<k->Za5 (ZcY r k) (v:Int)=at0 r v
 |0,v,h=>by omega
 |k+1,v,h=>by
  have key:∀(l m:List (Int×Int)),(∃p,p∈l/\p.1=(v:Int))->Za5 (l++m) (v:Int)=Za5 l (v:Int):=by
   intro l m
   induction l with
   |nil=>rintro⟨p,hp,_⟩;simp at hp
   |cons q l ih=>
    rintro⟨p,hp,h2⟩;obtain⟨a,b⟩:=q;rw[jH,Za5,Za5];by_cases c:a=(v:Int)
    ·rw[if_pos c,if_pos c]
    ·rw[if_neg c,if_neg c];rcases yK.1 hp with rfl|hp
     ·exact absurd h2 c
     ·exact ih ⟨p,hp,h2⟩
  have e:ZcY r (k+1)=ZcY r k++[((k:Int),at0 r k)]:=by simp[ZcY,gB]
  rcases qS.1 h with h1|rfl
  ·rw[e,key (ZcY r k) [((k:Int),at0 r k)] ⟨((v:Int),at0 r v),uN.2 ⟨v,yA.2 h1,rfl⟩,rfl⟩,ZpA h1]
  ·rw[e,ZsT];intro p hp;obtain⟨u,hu,rfl⟩:=uN.1 hp;have:=yA.1 hu;dsimp only;omega
def Zdp (r:List Int)(T:Nat):Int:=Zbl (λ v:Nat=>at0 r v) T
def Zed (r:List Int)(T:Nat):List Int:=(List.range T).map λ v:Nat=>at0 r v-Zdp r T
def ZiD (r:List Int)(sn:List Nat)(m:Int):Prop:=(sn=[]->m=0)/\(sn≠[]->(∃j,j∈sn/\m=at0 r j)/\∀j,j∈sn->m<=at0 r (j:Nat))
theorem ZiD.step {r:List Int}{sn:List Nat}{m:Int}(h:ZiD r sn m)(j:Nat):ZiD r (sn++[j]) (if sn=[]\/at0 r j<m then at0 r j else m):=by
 refine⟨λ h=>by simp at h,λ _=>?_⟩;by_cases c:sn=[]
 ·subst c;rw[if_pos (.inl rfl)];exact⟨⟨j,by simp,rfl⟩,λ i hi=>by simp at hi;subst hi;omega⟩
 ·obtain⟨⟨i,hi,e⟩,h2⟩:=h.2 c;split
  ·rename_i hc;refine⟨⟨j,by simp,rfl⟩,λ u hu=>?_⟩;rw[yH,uR]at hu;rcases hu with hu|rfl
   ·have:=h2 u hu;rcases hc with hc|hc
    ·exact absurd hc c
    ·omega
   ·omega
  ·rename_i hc;refine⟨⟨i,by simp[hi],e⟩,λ u hu=>?_⟩;rw[yH,uR]at hu;rcases hu with hu|rfl
   ·exact h2 u hu
   ·omega
theorem ZiD.all {r:List Int}{sn:List Nat}{m:Int}{T:Nat}(h:ZiD r sn m)(h1:∀j,j<T->j∈sn)(h2:∀j,j∈sn->j<T):m=Zdp r T:=by
 rcases qT T with rfl|h0
 ·have:sn=[]:=List.eq_nil_iff_forall_not_mem.2 λ j hj=>by have:=h2 j hj;omega
  rw[h.1 this];rfl
 ·have hne:sn≠[]:=λ e=>by have:=h1 0 h0;rw[e]at this;simp at this
  obtain⟨⟨j,hj,e⟩,h3⟩:=h.2 hne;have a1:m<=Zdp r T:=Zg6 h0 λ v hv=>h3 v (h1 v hv)
  have a2:Zdp r T<=at0 r j:=lowN_le (h:=λ v:Nat=>at0 r v) (h2 j hj);omega
theorem Zkr (a:Lv)(ws:List Int)(sep:Int)(r:List Int)(hw:wide a)(h:VA a ws sep)(hal:a.2.2.1.length<=1000)
  (hB:Zag Tryz.prog 58 [.d (nD (Zjk a ws sep))] [(2000, .dead)] (.tup [.ref 2000 1 0 r.length r.length, .int 0]) [(2000, .row 1 (r.map D.int))])
  (hrl:tot a.2.1<=r.length)(hrb:∀v:Nat,v<r.length->0<=at0 r v/\at0 r v<=34359738368):
  Zaa Tryz.prog 17 [lvD a,Zab ws, .int sep] (.tup [Zab (Zed r (tot a.2.1)), .int 0]):=by
 have hn:=Zwr a ws sep hw h hal;have hvx:=ZmD a (by have:=h.tt;omega);have htt:=h.tt;obtain⟨N,hN⟩:∃N,N=Zjk a ws sep:=⟨_,rfl⟩;rw[<-hN]at hn hB;obtain⟨N1,N2⟩:=N;obtain⟨n,ls,ar,cs⟩:=a;dsimp only at hvx htt hrl|-;generalize tot ls=T at hvx htt hrl|-;have hml:(r.map D.int).length=r.length:=uD _;refine kE Tryz.func17 ?_;intro hat B X w0;refine kw1 kO kc0 (kc3 hn hvx (kmc [(2000,900)] hB)) ?_;refine Zaf (λ(k:Nat)=>k<=T) (λ k=>[(3, .ptr 3 0 0 0),(10, .ref 900 1 0 r.length r.length),(11, .mp 37),(39, .int T),(40, .int k)]) (λ k=>[(3, .cells [.int n, .d (Zae ls), .d (Zak ar), .d (Zae cs)]),(900, .row 1 (r.map D.int)),(37, .imap (ZcY r k))]) (λ k=>T-k) 0 ?_ ?_ ?_
 ·exact uI _
 ·exact kN (kc1 @ZyA) []
 ·intro k hk;rcases uF k T with hlt|hge
  ·have hg:=ZaK (r:=r) (i:=k) (by omega);have hp:=Zzi r k;revert hg hp;generalize at0 r (k:Int)=rk;intro hg hp;refine kw1 kO (kc3 hg hp hml) kc0 ?_;refine⟨k+1,?_,kN (kc1 hp) [],?_⟩
   ·omega
   ·omega
  ·have hk:k=T:=by omega
   subst hk;have hMl:=Zt8 r k;refine kw1 kO (kc1 hMl) kc0 ?_;refine Zaf (λ(q:List Nat×Int)=>ZiD r q.1 q.2/\q.1.Nodup/\∀j,j∈q.1->j<k) (λ q=>[(11, .mp 37),(13, .int q.2),(14, .bool (!q.1.isEmpty)),(51, .ptr 51 1 0 0)]) (λ q=>[(37, .imap (ZcY r k)),(51, .iter 37 k q.1)]) (λ q=>k-q.1.length) ([],(0:Int)) ?_ ?_ ?_
   ·exact⟨⟨λ _=>rfl,λ h=>absurd rfl h⟩,Ap,by simp⟩
   ·exact kN (kc2 hMl @List.isEmpty_nil.{0}) []
   ·rintro⟨sn,m⟩ ⟨hmin,hnd,hlt⟩;dsimp only at hmin hnd hlt|-;have hln:=Zks k sn hnd hlt;refine Zbt rfl ?_;refine Zzf (i:=51) (o:=51) (m:=37) (k:=k) (sn:=sn) (l:=ZcY r k) rfl rfl rfl hMl (Cm rfl) (Cm rfl) (λ hall=>?_) (λ j hj hjn=>?_)
    ·have hm:=hmin.all hall hlt;subst hm;obtain⟨F,hF⟩:∃F:Nat->List Int,F=λ u=>Za0 (λ v:Nat=>at0 r v-Zdp r k) k u:=⟨_,rfl⟩
     have hfz:∀u:Nat,(F u).length=k:=λ u=>by rw[hF];exact Zdh _ k u
     have hf0:(F 0).map D.int=List.replicate k (D.int 0):=by rw[hF];exact ZhK _ k
     have hfe:F k=Zed r k:=by rw[hF];exact Zhz _ k
     have hfs:∀u:Nat,u<k->((F u).map D.int).set u (D.int (at0 r u-Zdp r k))=(F (u+1)).map D.int:=λ u hu=>by simp only[hF];rw[<-ZhE hu,yP]
     have hlow:k=0\/(0<=Zdp r k/\Zdp r k<=34359738368):=by
      rcases qT k with h0|h0
      ·exact .inl h0
      ·refine .inr ⟨Zg6 h0 λ v hv=>(hrb v (by omega)).1,?_⟩;have:=lowN_le (h:=λ v:Nat=>at0 r v) h0;have h2:=(hrb 0 (by omega)).2;exact Ae this h2
     refine kw1 kO (kc1 hMl) kc0 ?_;refine Zaf (λ(u:Nat)=>u<=k) (λ u=>[(11, .mp 37),(13, .int (Zdp r k)),(17, .ref 66 1 0 k k),(68, .int k),(69, .int u)]) (λ u=>[(37, .imap (ZcY r k)),(66, .row 1 ((F u).map D.int))]) (λ u=>k-u) 0 ?_ ?_ ?_
     ·exact uI _
     ·exact kN (kc1 hf0) []
     ·intro u hu;have hfl:=hfz u;rcases uF u k with hlt2|hge2
      ·have hg:=ZpA (r:=r) hlt2;have hsm:=hfs u hlt2;obtain⟨od,hod⟩:=Zad (show u<(F u).length by omega);have hb1:=hrb u (by omega);have hb2:=hlow.resolve_left (by omega);have hfl2:=hfz (u+1);revert hg hsm hb1 hb2;generalize Zdp r k=lw;generalize at0 r (u:Int)=ru;intro hg hsm hb1 hb2;refine kw1 kO (kc5 hMl hg hsm hfl hod) kc0 ?_;refine⟨u+1,?_,kN (kc1 hsm) [],?_⟩
       ·omega
       ·omega
      ·have hu:u=k:=by omega
       subst hu;refine kw1 kO kc0 kc0 ?_;exact⟨_,rfl,ZcK (o:=66) rfl rfl (by simp[hfl]) (by rw[uG (by simp[hfl]),hfe]),Zah rfl,trivial⟩
    ·have hst:=hmin.step j;have hgl:(sn++[j]).getLast?=some j:=by simp
     have hgd:=Zwk (r:=r) hj;have hie:(sn++[j]).isEmpty=false:=by simp
     have hnd':(sn++[j]).Nodup:=by
      rw[gP];exact⟨hnd,by simp,by intro x hx y hy;rw[uR]at hy;subst hy;rintro rfl;exact hjn hx⟩
     have hlt':∀i,i∈sn++[j]->i<k:=λ i hi=>by
      rw[yH,uR]at hi;rcases hi with hi|rfl
      ·exact hlt i hi
      ·exact hj
     have hln':=Zks k _ hnd' hlt';rw[uC,yT]at hln';revert hst hgd;generalize at0 r (j:Int)=rj;intro hst hgd;rcases hse:sn.isEmpty with _|_
     ·have hne:sn≠[]:=by rintro rfl;cases hse
      by_cases c:rj<m
      ·rw[if_pos (.inr c)]at hst;refine kw1 kO (kc6 hMl hgl hgd hse c @Bh) kc0 ?_;refine⟨(sn++[j],rj),?_,kN (kc1 hie) [],?_⟩
       ·exact⟨hst,hnd',hlt'⟩
       ·dsimp only;rw[uC,yT];omega
      ·rw[if_neg (by rintro(h|h);exact hne h;exact c h)]at hst;refine kw1 kO (kc6 hMl hgl hgd hse c @Bh) kc0 ?_;refine⟨(sn++[j],m),?_,kN (kc1 hie) [],?_⟩
       ·exact⟨hst,hnd',hlt'⟩
       ·dsimp only;rw[uC,yT];omega
     ·have he:sn=[]:=Ab.1 hse;rw[if_pos (.inl he)]at hst;refine kw1 kO (kc5 hMl hgl hgd hse @Co) kc0 ?_;refine⟨(sn++[j],rj),?_,kN (kc1 hie) [],?_⟩
      ·exact⟨hst,hnd',hlt'⟩
      ·dsimp only;rw[uC,yT];omega
end Go.Proofs.YtjjbhjnpeenbkaaGreatDoor.Al
namespace Go.Proofs.YtjjbhjnpeenbkaaGreatDoor.Al
open Go Go.PS Go.Proofs
open Sx (Bd bdD ZbN Net nD ZfR ZfK Zbl lowN_le Zg6)
set_option maxRecDepth 100000
attribute [local irreducible] Zac wpG Zaa Zag
end Go.Proofs.YtjjbhjnpeenbkaaGreatDoor.Al
namespace Go.Proofs.YtjjbhjnpeenbkaaGreatDoor.Al
open Go Go.PS Go.Proofs
open Sx (Bd bdD ZbN Net nD nOk ZbS ZeK PotB zeros Best SolveOk solve_best Zhr Zhk Zkb Zra Zl2 midF ZmJ ZnP Zcl ZeV Zb5 Zb6 Zar gap ZqV)
set_option maxRecDepth 100000
attribute [local irreducible] Zac wpG Zaa Zag
theorem Zm4 (r:List Int)(v:Int):Sx.at0 r v=at0 r v:=rfl
variable {a:Lv}{ws:List Int}{sep:Int}
abbrev ZeT (a:Lv):Nat:=tot a.2.1+a.2.2.1.length
abbrev Zci (a:Lv)(ws:List Int)(sep:Int):List Bd:=ZfT a a.2.2.1.length++Zbi ws sep a.2.1 a.2.1.length
theorem Zma {k:Nat}{b:Bd}(h:b∈ZfT a k):∃i x,i<k/\a.2.2.1[i]? =some x/\(b=(((tot a.2.1+i:Nat):Int),x.1,0,Zb3 a.1 x)\/b=(((tot a.2.1+i:Nat):Int),x.2,0,Zb3 a.1 x)):=by
 obtain⟨i,hi,hb⟩:=ZfO.1 h;rw[Zkq]at hb;split at hb
 ·rename_i x hx;rw[Zf2]at hb;simp only[yK,jQ,Cv]at hb;exact⟨i,x,hi,hx,hb⟩
 ·simp at hb
theorem Zkx {l:List Int}(hn:l.Nodup){k:Nat}{v:Int}(h:l[k]? =some v):l.idxOf v=k:=by
 obtain⟨h1,h2⟩:=uB.1 h;have h3:=List.idxOf_lt_length_iff.2 (uA h);have h4:l[l.idxOf v]=v:=Bc h3;rcases Am (l.idxOf v) k with c|c|c
 ·exact absurd (h4.trans h2.symm) (gU.1 hn _ _ h3 h1 c)
 ·exact c
 ·exact absurd (h2.trans h4.symm) (gU.1 hn _ _ h1 h3 c)
theorem Zgy {ls:List (List Int)}{i:Nat}{x:List Int}(h:ls[i]? =some x){j:Nat}{v:Int}(hj:x[j]? =some v):ls.flatten[(ls.take i).flatten.length+j]? =some v:=by
 obtain⟨h1,h2⟩:=uB.1 h;have e:ls=ls.take i++x::ls.drop (i+1):=by rw[<-h2,<-gG h1,yX]
 have hjl:=(uB.1 hj).1;have e2:ls.flatten=(ls.take i).flatten++(x++(ls.drop (i+1)).flatten):=by
  conv=>lhs;rw[e]
  simp
 rw[e2,yU (by omega),kI,qG hjl,hj]
theorem ZrW {k:Nat}{b:Bd}(h:b∈Zbi ws sep a.2.1 k):∃(i:Nat) (x:List Int) (j:Nat) (u v:Int),a.2.1[i]? =some x/\x[j]? =some u/\x[j+1]? =some v/\b=(u,v,apF ws sep u v,0):=by
 obtain⟨i,hi,hb⟩:=ZfO.1 h;rw[prL]at hb;split at hb
 ·rename_i x hx;obtain⟨j,hj,rfl⟩:=uN.1 hb;have hj:=yA.1 hj;exact⟨i,x,j,_,_,hx,ZaK (by omega),ZaK (by omega),rfl⟩
 ·simp at hb
def Zhp (a:Lv)(v:Nat):Int:=if v<tot a.2.1 then 4194304*(a.2.1.flatten.idxOf (v:Int):Int)else 0
theorem Zme (h:VA a ws sep)(hal:a.2.2.1.length<=700):nOk ((ZeT a:Int),Zci a ws sep)=true:=by
 have h1:=h.tt;have h2:=Zjr ws sep a.2.1 a.2.1.length (uH _);rw[yF]at h2;have h3:=Zms a a.2.2.1.length (uH _);simp only[nOk,uK,uE,yD,yR,uC];have hN:ZeT a=tot a.2.1+a.2.2.1.length:=rfl;refine⟨⟨by omega,by omega,by omega⟩,λ b hb=>?_⟩;rw[yH]at hb;simp only[Sx.bdIn,yD,qA,Ak];rcases hb with hb|hb
 ·obtain⟨i,x,hi,hx,hb⟩:=Zma hb;have hm:=h.arcs x (uA hx);have hw:=ZkG a.1 x;rcases hb with rfl|rfl<;>(dsimp only;omega)
 ·obtain⟨i,x,j,u,v,hx,hu,hv,rfl⟩:=ZrW hb;have hm:=uA hx;have b1:=h.vert x hm _ (uA hu);have b2:=h.vert x hm _ (uA hv);have b3:=ZhR h u v;have hne:u≠v:=by
   rintro rfl;have e1:=Zkx h.nodup (Zgy hx hu);have e2:=Zkx h.nodup (Zgy hx hv);omega
  dsimp only;omega
theorem ZzX (h:VA a ws sep):PotB (Zci a ws sep) (zeros (Zci a ws sep)) (Zhp a):=by
 refine Sx.potB_nil.1 λ k b hk=>⟨?_,λ hf=>by simp[Sx.at0]at hf⟩
 have hb:=uA hk;rw[yH]at hb;rcases hb with hb|hb
 ·obtain⟨i,x,hi,hx,hb⟩:=Zma hb;rcases hb with rfl|rfl
  ·dsimp only;rw[Zhp,if_neg (by omega),Zhp];split<;>omega
  ·dsimp only;rw[Zhp,if_neg (by omega),Zhp];split<;>omega
 ·obtain⟨i,x,j,u,v,hx,hu,hv,rfl⟩:=ZrW hb;have hm:=uA hx;have b1:=h.vert x hm _ (uA hu);have b2:=h.vert x hm _ (uA hv);have b3:=ZhR h u v;have e1:=Zkx h.nodup (Zgy hx hu);have e2:=Zkx h.nodup (Zgy hx hv);dsimp only;rw[Zhp,if_pos (by omega),Zhp,if_pos (by omega),show((u.toNat:Nat):Int)=u by omega,show((v.toNat:Nat):Int)=v by omega,e1,e2];omega
structure Bal (a:Lv)(ws:List Int)(sep:Int)(M:List Int):Prop where
 len:M.length=ZeT a
 bd:∀v:Nat,v<M.length->0<=at0 M v/\at0 M v<=34359738368
 pot:PotB (Zci a ws sep) (zeros (Zci a ws sep)) (λ v=>at0 M v)
 calls:Zag Tryz.prog 58 [.d (nD (Zjk a ws sep))] [(2000, .dead)] (.tup [.ref 2000 1 0 M.length M.length, .int 0]) [(2000, .row 1 (M.map D.int))]
 least:∀x:List Int,PotB (Zci a ws sep) (zeros (Zci a ws sep)) (λ v=>at0 x v)->Zb5 (Zci a ws sep) M<=Zb5 (Zci a ws sep) x
theorem ZtS (h:VA a ws sep)(hal:a.2.2.1.length<=700):∃A f b f2,Best (ZeT a) (Zci a ws sep) A f/\Best (ZeT a) ((Zci a ws sep).map Sx.mirB) b f2/\Bal a ws sep (midF A b):=by
 have hg:=Zme h hal;obtain⟨hbd,hn,hll⟩:=ZeK hg;obtain⟨A,f,hS,hB⟩:=solve_best hg ⟨_,ZzX h⟩;have hgm:=ZmJ hg;obtain⟨hbm,_,_⟩:=ZeK hgm;obtain⟨b,f2,hS2,hB2⟩:=solve_best hgm ⟨_,ZnP hbd (Sx.potB_zeros (Zhk hbd hB))⟩;have hN:ZeT a<=2048:=hn;have hfa:Sx.fromTo A 34359738368:=λ v=>by have:=Zhr hbd hB v;omega
 have hfb:Sx.fromTo b 34359738368:=λ v=>by have:=Zhr hbm hB2 v;omega
 have hmid:=Zra hg hB hB2;have hml:(midF A b).length=ZeT a:=by simp[midF,hB.rl]
 have hfp:=ZqV hmid.1;have hrk:Sx.rkOk ((ZeT a:Int),Zci a ws sep) (midF A b)=true:=by
  have:=hmid.1;simp only[Zcl,uK]at this;exact this.1
 obtain⟨_,_,hrk⟩:=Sx.rkOk_in hrk;refine⟨A,f,b,f2,hB,hB2,hml,λ v hv=>?_,hfp.2.2,?_,λ x hx=>?_⟩
 ·have h1:=hrk v (by omega) (by dsimp only;omega);rw[Zm4]at h1;refine⟨?_,h1.2.2⟩;have h2:=Zl2 (a:=A) (b:=b) (v:=v) (by rw[hB.rl];omega);rw[Zm4]at h2;have h3:=Sx.lowN_le (h:=Sx.halfAt A b (Sx.topN A b A.length)) (k:=A.length) (v:=v) (by rw[hB.rl];omega);omega
 ·have hc:=Sx.Balanced_ok ((ZeT a:Int),Zci a ws sep) A b f f2 hS hS2 (by dsimp only;omega) (by rw[hB.rl];omega) (λ v=>by have:=hfa v;omega) (λ v=>by have:=hfb v;omega);rw[show A.length=(midF A b).length by rw[hml,hB.rl]]at hc;exact hc
 ·have h1:=(Zkb hbd hB hx).1;have h2:=hmid.2;have hfe:=Sx.best_feas hg hB;have hr1:Sx.rkOk ((ZeT a:Int),Zci a ws sep) A=true:=by
   simp only[Zcl,uK]at hfe;exact hfe.1
  have hr2:Sx.rkOk ((ZeT a:Int),Zci a ws sep) (midF A b)=true:=by
   have:=hmid.1;simp only[Zcl,uK]at this;exact this.1
  rw[Sx.cost_is hr1,Sx.cost_is hr2]at h2;omega
end Go.Proofs.YtjjbhjnpeenbkaaGreatDoor.Al
namespace Go.Proofs.YtjjbhjnpeenbkaaGreatDoor.Al
open Go Go.PS Go.Proofs
open Sx (Bd nOk ZbS ZeK PotB zeros Best Zhr Zhk Zb5 Zb6 Zar Zbl lowN_le Zg6 midF)
set_option maxRecDepth 100000
variable {a:Lv}{ws:List Int}{sep:Int}
def ZiH (r:List Int)(b:Bd):Int:=b.2.2.2*(at0 r b.2.1-at0 r b.1)
theorem Zrv (l:List Bd)(r:List Int):∀k,k<=l.length->Zar (Zb6 r l) k=((l.take k).map (ZiH r)).sum
 |0,_=>by simp[Zar]
 |k+1,hk=>by
  obtain⟨b,hb⟩:=Zad (show k<l.length by omega);rw[Sx.sumI_succ,Zrv l r k (by omega),Sx.costAt_some hb,ZaB hb,uU,zQ];simp[ZiH,Zm4]
theorem ZCQ (l:List Bd)(r:List Int):Zb5 l r=(l.map (ZiH r)).sum:=by
 rw[Zb5,Zrv l r l.length (uH _),yF]
theorem ZsD {f:Bd->Int}:∀{l:List Bd},(∀b,b∈l->f b=0)->(l.map f).sum=0
 |[],_=>rfl
 |b::l,h=>by
  rw[uV,jB,h b (by simp),ZsD λ c hc=>h c (uO _ hc)];rfl
def Zkv (a:Lv)(r:List Int)(k:Nat)(x:Arc):Int:=Zb3 a.1 x*(at0 r x.1-at0 r ((tot a.2.1+k:Nat):Int))+Zb3 a.1 x*(at0 r x.2-at0 r ((tot a.2.1+k:Nat):Int))
def Zgu (a:Lv)(r:List Int):Nat->Int
 |0=>0
 |k+1=>Zgu a r k+match a.2.2.1[k]? with|some x=>Zkv a r k x|none=>0
theorem ZqU (a:Lv)(r:List Int):∀k,k<=a.2.2.1.length->((ZfT a k).map (ZiH r)).sum=Zgu a r k
 |0,_=>rfl
 |k+1,hk=>by
  obtain⟨x,hx⟩:=Zad (show k<a.2.2.1.length by omega);rw[ZlJ hx,uU,zQ,ZqU a r k (by omega),Zgu,hx,Zf2];simp[ZiH,Zkv]
theorem Ztv (a:Lv)(ws:List Int)(sep:Int)(r:List Int):Zb5 (Zci a ws sep) r=Zgu a r a.2.2.1.length:=by
 rw[ZCQ,uU,zQ,ZqU a r _ (uH _),ZsD λ b hb=>by rw[ZiH,Zp7 ws sep _ _ b hb,Int.zero_mul],jT]
theorem ZxI {k:Nat}{x:Arc}(hx:a.2.2.1[k]? =some x):(((tot a.2.1+k:Nat):Int),x.1,0,Zb3 a.1 x)∈Zci a ws sep/\(((tot a.2.1+k:Nat):Int),x.2,0,Zb3 a.1 x)∈Zci a ws sep:=by
 have hk:=(uB.1 hx).1;have h:∀b,b∈Zf2 a k x->b∈Zci a ws sep:=λ b hb=>Aq _ (ZfO.2 ⟨k,hk,by rw[Zkq,hx];exact hb⟩)
 exact⟨h _ (by simp[Zf2]),h _ (by simp[Zf2])⟩
theorem ZmC {l:List Bd}{r:List Int}(h:PotB l (zeros l) (λ v=>at0 r v)){b:Bd}(hb:b∈l)(h1:0<=b.1)(h2:0<=b.2.1):at0 r b.1+b.2.2.1<=at0 r b.2.1:=by
 obtain⟨k,hk⟩:=jC.1 hb;have:=(h k b hk).1;dsimp only at this
 rwa [show((b.1.toNat:Nat):Int)=b.1 by omega,show((b.2.1.toNat:Nat):Int)=b.2.1 by omega]at this
theorem ZAj (r:List Int)(T:Nat):(Zed r T).length=T:=by simp[Zed]
theorem Zlr {r:List Int}{T:Nat}{v:Int}(h0:0<=v)(h1:v<T):at0 (Zed r T) v=at0 r v-Zdp r T:=by
 obtain⟨n,rfl⟩:∃n:Nat,v=n:=⟨v.toNat,by omega⟩;have hn:n<T:=by omega
 rw[at0,Zed,uL,uJ,qM hn];rfl
theorem ZBY {w x y o:Int}(hw:0<=w)(hx:o<=x)(hy:o<=y):w*Zdn (x-y)<=w*(x-o)+w*(y-o):=by
 rw[<-kY];exact jX (by rw[Zdn];omega) hw
theorem Zo9 (h:VA a ws sep){M:List Int}(hM:Bal a ws sep M):∀k,k<=a.2.2.1.length->Zdg a (Zed M (tot a.2.1)) k<=Zgu a M k
 |0,_=>qZ _
 |k+1,hk=>by
  obtain⟨x,hx⟩:=Zad (show k<a.2.2.1.length by omega);have ih:=Zo9 h hM k (by omega);have hm:=h.arcs x (uA hx);have hw:=ZkG a.1 x;obtain⟨g1,g2⟩:=ZxI (ws:=ws) (sep:=sep) hx;have p1:=ZmC hM.pot g1 (by dsimp only;omega) hm.1.1;have p2:=ZmC hM.pot g2 (by dsimp only;omega) hm.2.1;dsimp only at p1 p2;have:=ZBY (w:=Zb3 a.1 x) (x:=at0 M x.1) (y:=at0 M x.2) (o:=at0 M ((tot a.2.1+k:Nat):Int)) (by omega) (by omega) (by omega);rw[Zdg,Zgu,hx];dsimp only;rw[ZfH,Zkv,Zlr hm.1.1 hm.1.2,Zlr hm.2.1 hm.2.2,show at0 M x.1-Zdp M (tot a.2.1)-(at0 M x.2-Zdp M (tot a.2.1))=at0 M x.1-at0 M x.2 by omega];omega
def Zh9 (a:Lv)(X:List Int):List Int:=X++a.2.2.1.map λ x=>min (at0 X x.1) (at0 X x.2)
theorem ZiB {X:List Int}{v:Int}(h0:0<=v)(h1:v<X.length):at0 (Zh9 a X) v=at0 X v:=by
 rw[at0,at0,Zh9,qG (by omega)]
theorem ZsY {X:List Int}(hl:X.length=tot a.2.1){k:Nat}{x:Arc}(hx:a.2.2.1[k]? =some x):at0 (Zh9 a X) ((tot a.2.1+k:Nat):Int)=min (at0 X x.1) (at0 X x.2):=by
 rw[at0,Zh9,uL,yU (by omega),hl,kI,uJ,hx];rfl
theorem ZAt {w x y:Int}:w*(x-min x y)+w*(y-min x y)=w*Zdn (x-y):=by
 rw[<-kY,show x-min x y+(y-min x y)=Zdn (x-y) by rw[Zdn];omega]
theorem ZrT (h:VA a ws sep){X:List Int}(hX:Fits a X):∀k,k<=a.2.2.1.length->Zgu a (Zh9 a X) k=Zdg a X k
 |0,_=>rfl
 |k+1,hk=>by
  obtain⟨x,hx⟩:=Zad (show k<a.2.2.1.length by omega);have ih:=ZrT h hX k (by omega);have hm:=h.arcs x (uA hx);have hl:=hX.len;rw[Zdg,Zgu,hx,ih];dsimp only;rw[ZfH,Zkv,ZsY hl hx,ZiB hm.1.1 (by omega),ZiB hm.2.1 (by omega),ZAt]
theorem Zyi (h:VA a ws sep){X:List Int}(hX:Fits a X)(hc:(Zbi ws sep a.2.1 a.2.1.length).any (ZdQ X)=false):PotB (Zci a ws sep) (zeros (Zci a ws sep)) (λ v=>at0 (Zh9 a X) v):=by
 refine Sx.potB_nil.1 λ k b hk=>⟨?_,λ hf=>by simp[Sx.at0]at hf⟩
 have hb:=uA hk;have hl:=hX.len;rw[yH]at hb;rcases hb with hb|hb
 ·obtain⟨i,x,hi,hx,hb⟩:=Zma hb;have hm:=h.arcs x (uA hx);have e:=ZsY hl hx;have e1:=ZiB (a:=a) (X:=X) hm.1.1 (by omega);have e2:=ZiB (a:=a) (X:=X) hm.2.1 (by omega);rcases hb with rfl|rfl
  ·dsimp only;rw[uL,e,show((x.1.toNat:Nat):Int)=x.1 by omega,e1];omega
  ·dsimp only;rw[uL,e,show((x.2.toNat:Nat):Int)=x.2 by omega,e2];omega
 ·have hi:=Zou h _ b hb;have:=yR.1 hc b hb;simp only[ZdQ,uE,Int.not_lt]at this;rw[show((b.1.toNat:Nat):Int)=b.1 by omega,show((b.2.1.toNat:Nat):Int)=b.2.1 by omega,ZiB hi.1.1 (by omega),ZiB hi.2.1.1 (by omega)];omega
theorem ZvX (h:VA a ws sep){M:List Int}(hM:Bal a ws sep M)(h0:0<tot a.2.1):0<=Zdp M (tot a.2.1)/\∀v:Nat,v<tot a.2.1->Zdp M (tot a.2.1)<=at0 M v:=by
 have hl:M.length=tot a.2.1+a.2.2.1.length:=hM.len;exact⟨Zg6 h0 λ v hv=>(hM.bd v (by omega)).1,λ v hv=>lowN_le (h:=λ v:Nat=>at0 M v) hv⟩
theorem Zrm (h:VA a ws sep){M:List Int}(hM:Bal a ws sep M):ZbW a (Zed M (tot a.2.1))=true:=by
 have hl:M.length=tot a.2.1+a.2.2.1.length:=hM.len;simp only[ZbW,uK,uE,yD,yR,ZAj,Cx];intro x hx;obtain⟨v,hv,rfl⟩:=uN.1 hx;have hv:=yA.1 hv;have h1:=ZvX h hM (by omega);have h2:=h1.2 v hv;have h3:=hM.bd v (by omega);simp only[inX,yD,qA,Ak];omega
theorem ZCv (h:VA a ws sep){M:List Int}(hM:Bal a ws sep M):Zf0 a ws sep (Zed M (tot a.2.1))=0:=by
 rw[Zf0,if_pos h.ok,if_pos (Zrm h hM),if_neg];rw[Cq,yR];intro q hq;have hi:=Zou h _ q hq;have:=ZmC hM.pot (Aj _ hq) hi.1.1 hi.2.1.1;simp only[ZdQ,uE,Int.not_lt];rw[Zlr hi.1.1 hi.1.2,Zlr hi.2.1.1 hi.2.1.2];omega
theorem ZCd (h:VA a ws sep){M X:List Int}(hM:Bal a ws sep M)(hc:Zf0 a ws sep X=0):ZgO a (Zed M (tot a.2.1))<=ZgO a X:=by
 rw[Zf0,if_pos h.ok]at hc;rcases hf:ZbW a X with _|_
 ·rw[hf]at hc;simp at hc
 rw[hf,if_pos rfl]at hc;rcases hb:(Zbi ws sep a.2.1 a.2.1.length).any (ZdQ X)with _|_
 ·have hX:=Fits.of hf;have h1:=Zo9 h hM a.2.2.1.length (uH _);have h2:=hM.least _ (Zyi h hX hb);rw[Ztv,Ztv,ZrT h hX _ (uH _)]at h2;rw[ZgO,ZgO,h.v,Zrm h hM,hf];simp only[Bool.and_self,if_true];omega
 ·rw[hb]at hc;simp at hc
end Go.Proofs.YtjjbhjnpeenbkaaGreatDoor.Al
namespace Go.Proofs.YtjjbhjnpeenbkaaGreatDoor.Gr
open Go Go.PS Go.Proofs Go.Proofs.YtjjbhjnpeenbkaaGreatDoor
set_option maxRecDepth 100000
attribute [local irreducible] Zac wpG Zaa Zag
structure Opt where
 md:Int
 nsep:Int
 rsep:Int
 mg:Int
 rd:Int
abbrev Zgb (o:Opt):D:= .ag [.int o.md, .int o.nsep, .int o.rsep, .int o.mg, .int o.rd]
def ZfX (m x:Int):Bool:=decide (0<=x)&&decide (x<=m)
def okO (o:Opt):Bool:=ZfX 4 o.md&&(ZfX 1048576 o.nsep&&(ZfX 1048576 o.rsep&&(ZfX 1048576 o.mg&&(ZfX 100 o.rd))))
theorem Zi4 (m x:Int)(hm:0<=m):decide (x=if m<(if x<0 then 0 else x)then m else(if x<0 then 0 else x))=ZfX m x:=by
 rw[gO];simp only[ZfX,uE,uK];split<;>split<;>omega
theorem ZlV (o:Opt):Zaa Tryz.prog 46 [Zgb o] (.bool (okO o)):=by
 have e1:=Zi4 4 o.md (by decide);have e2:=Zi4 1048576 o.nsep (by decide);have e3:=Zi4 1048576 o.rsep (by decide);have e4:=Zi4 1048576 o.mg (by decide);have e5:=Zi4 100 o.rd (by decide);refine kE Tryz.func46 ?_;intro hat B X w0;refine kw1 kO (kc5 e1 e2 e3 e4 e5) kc0 ?_;exact Zaj (by simp only[okO,Bool.and_true])
def ZiQ (g:Gph):Gr:=((g.ns.length:Int),g.es.map λ e=>(e.fr,e.to))
def Zei (g:Gph)(k:Nat):List Arc:=(g.es.take k).map λ e=>(e.fr,e.to)
theorem Zt9 {g:Gph}{k:Nat}{e:Ed}(h:g.es[k]? =some e):Zei g (k+1)=Zei g k++[(e.fr,e.to)]:=by
 rw[Zei,Zei,ZaB h,uU];rfl
theorem ZyU (g:Gph):Zei g g.es.length=(ZiQ g).2:=by rw[Zei,yF,ZiQ]
theorem ZzD (g:Gph){k:Nat}(h:k<=g.es.length):(Zei g k).length=k:=by rw[Zei,uD,uS];omega
theorem ZvP (g:Gph)(hl:g.es.length<=1000000):Zaa Tryz.prog 95 [ZbU g] (gD (ZiQ g)):=by
 refine kE Tryz.func95 ?_;intro hat B X w0;refine kw1 kO kc0 kc0 ?_;refine Zas _ (Zcy 3 1 901 2 rfl rfl rfl) ?_;refine Zaf (λ(k:Nat)=>k<=g.es.length) (λ k=>[(2, .ptr 2 0 0 0),(3, .ptr 3 0 0 0),(11, .d (.sl (g.es.map edD))),(12, .int g.es.length),(13, .int k)]) (λ k=>[(2, .cells [.int 0, .nilS]),(3, .cells [.int g.ns.length, .ref 901 2 0 (Zei g k).length (Zei g k).length]),(901, .row 2 ((Zei g k).map ZaZ))]) (λ k=>g.es.length-k) 0 ?_ ?_ ?_
 ·exact uI _
 ·exact kN kc0 []
 ·intro k hk;have hln:=ZzD g hk;rcases uF k g.es.length with hlt|hge
  ·obtain⟨e,he⟩:=Zad hlt;have hs:=Zt9 he;have htk:((Zei g k).map ZaZ).take k=(Zei g k).map ZaZ:=uG (by simp[hln]);refine kw1 kO (kc3 he htk hln) kc0 ?_;refine⟨k+1,?_,eL [(901,25)] _ _ (by refine⟨?_,?_⟩<;>(repeat' first|exact fmn|refine fmc ⟨(by first|rfl|(simp(disch:=omega) only[go_sem,simprocAttr,inL,hs,uC,yT,uU,uV,yS,hln];first|done|omega|(congr 1;done))),?_⟩);done),?_⟩
   ·exact hlt
   ·omega
  ·obtain rfl:k=g.es.length:=by omega
   refine kw1 kO kc0 kc0 ?_;refine⟨_,_,_,_,rfl,?_⟩;simp(disch:=omega) only[go_sem,simprocAttr];rw[ZyU,Zat];rfl
open Go.Cy (NA InN ZdR ZcQ)
def naF (g:Gph):List NA:=g.es.map λ e=>(e.fr.toNat,e.to.toNat)
def ZbG (g:Gph):List NA:=ZcQ (naF g) (ZdR g.ns.length (naF g))
theorem Ziy (g:Gph):(ZbG g).length=g.es.length:=by rw[ZbG,Go.Cy.flipN_len,naF,uD]
structure ZbF (g:Gph):Prop where
 md:Mod g
 ok:Zdw g=0
 n8:g.ns.length<=8
theorem Zf5 {g:Gph}(h:Zdw g=0):g.es.length<=256/\fe (ZgF g) g.ns.length=0/\fe (Zhb g) g.es.length=0:=by
 rw[Zdw]at h;split at h
 ·cases h
 ·split at h
  ·cases h
  ·split at h
   ·contradiction
   ·rename_i h1;split at h
    ·contradiction
    ·exact⟨by omega,by omega,h⟩
theorem Zmr {g:Gph}(h:Zdw g=0){k:Nat}{e:Ed}(he:g.es[k]? =some e):0<=e.fr/\e.fr<g.ns.length/\0<=e.to/\e.to<g.ns.length/\1<=e.wt/\e.wt<=1000/\1<=e.ln/\e.ln<=64:=by
 have h1:=ZnA (Zf5 h).2.2 k (uB.1 he).1;rw[Zhb,he]at h1;dsimp only at h1;rw[ZiF]at h1;split at h1
 ·cases h1
 ·split at h1
  ·contradiction
  ·split at h1
   ·cases h1
   ·omega
theorem ZBW {g:Gph}(h:Zdw g=0):ZiQ g=((g.ns.length:Int),Cyc.castA (naF g)):=by
 rw[ZiQ,Cyc.castA,naF,gL]
 congr 1
 refine yJ λ e he=>?_
 obtain⟨k,hk⟩:=jC.1 he;obtain⟨h1,_,h2,_⟩:=Zmr h hk;simp only[Function.comp];rw[show((e.fr.toNat:Nat):Int)=e.fr by omega,show((e.to.toNat:Nat):Int)=e.to by omega]
theorem Zmu {g:Gph}(h:Zdw g=0):InN g.ns.length (naF g):=by
 intro a ha;obtain⟨e,he,rfl⟩:=uN.1 ha;obtain⟨k,hk⟩:=jC.1 he;obtain⟨h1,h2,h3,h4,_⟩:=Zmr h hk;dsimp only;omega
theorem Zy0 {g:Gph}(hs:ZbF g):gOk ((g.ns.length:Int),Cyc.castA (naF g))=true:=by
 have h1:=(Zf5 hs.ok).1;have h2:=hs.n8;simp only[gOk,uK,uE,yD,yR];refine⟨⟨by omega,by omega,by rw[Cyc.castA_len,naF,uD];omega⟩,?_⟩;intro a ha;obtain⟨b,hb,rfl⟩:=uN.1 ha;have:=Zmu hs.ok b hb;simp[Zf7];omega
theorem Zz9 {g:Gph}(h:Zdw g=0):InN g.ns.length (ZbG g):=by
 intro a ha;obtain⟨k,b,hk,rfl⟩:=Go.Cy.flipN_mem ha;have:=Zmu h b (uA hk);split
 ·dsimp only;omega
 ·exact this
theorem Zxe {g:Gph}(hs:ZbF g):∃s:D,Zaa Tryz.prog 94 [gD (ZiQ g)] (.tup [s,gD ((g.ns.length:Int),Cyc.castA (ZbG g))]):=by
 have h:=Cyc.Break8 g.ns.length (naF g) (Zy0 hs) (Zmu hs.ok) (by rw[naF,uD];exact(Zf5 hs.ok).1) hs.n8;rw[ZBW hs.ok];exact⟨_,h⟩
def Zfg (l:List NA)(i:Nat):Bool:=match l[i]? with
 |some a=>decide (a.1≠a.2)
 |none=>false
def ksF (l:List NA)(k:Nat):List Nat:=(List.range k).filter (Zfg l)
def Zjy (l:List NA)(i:Nat):Arc:=match l[i]? with
 |some a=>((a.1:Int),(a.2:Int))
 |none=>(0,0)
def Zbp (l:List NA)(k:Nat):List Arc:=(ksF l k).map (Zjy l)
def Zbr (l:List NA)(k:Nat):List Int:=(ksF l k).map λ(i:Nat)=>(i:Int)
theorem ZkU {l:List NA}{k:Nat}:ksF l (k+1)=ksF l k++if Zfg l k then[k]else[]:=by
 rw[ksF,ksF,gB,jA];cases h:Zfg l k<;>simp[h]
theorem Zij (l:List NA)(k:Nat):(ksF l k).length<=k:=by
 have:=jY (Zfg l) (List.range k);rw[zA]at this;exact this
theorem Zlm {l:List NA}{k i:Nat}(h:i∈ksF l k):i<k/\Zfg l i=true:=by
 rw[ksF,Ah,yA]at h;exact h
abbrev Znz (n:Nat)(l:List NA):D:= .ag [.int n,Zak (Zbp l l.length),Zab (Zbr l l.length)]
theorem ZmQ {g:Gph}(hs:ZbF g):Zaa Tryz.prog 47 [ZbU g] (Znz g.ns.length (ZbG g)):=by
 obtain⟨h256,_,_⟩:=Zf5 hs.ok;have h1:=ZvP g (by omega);obtain⟨s,h2⟩:=Zxe hs;have hbl:=Ziy g;generalize ZbG g=l at*;have hcl:(Cyc.castA l).length=l.length:=Cyc.castA_len l;refine kE Tryz.func47 ?_;intro hat B X w0;refine kw1 kO (kc1 hcl) (kc2 h1 h2) ?_;refine Zas _ (Zcy 5 1 901 2 rfl rfl rfl) ?_;refine Zas _ (Zcy 5 2 902 1 rfl rfl rfl) ?_;refine Zaf (λ(k:Nat)=>k<=l.length) (λ k=>[(2, .ptr 2 0 0 0),(5, .ptr 5 0 0 0),(20, .d (Zak (Cyc.castA l))),(21, .int l.length),(22, .int k)]) (λ k=>[(2, .cells [.int 0, .nilS, .nilS]),(5, .cells [.int g.ns.length, .ref 901 2 0 (Zbp l k).length (Zbp l k).length, .ref 902 1 0 (Zbr l k).length (Zbr l k).length]),(901, .row 2 ((Zbp l k).map ZaZ)),(902, .row 1 ((Zbr l k).map D.int))]) (λ k=>l.length-k) 0 ?_ ?_ ?_
 ·exact uI _
 ·exact eL [] _ _ (by refine⟨?_,?_⟩<;>(repeat' first|exact fmn|refine fmc ⟨(by first|rfl|(simp(disch:=omega) only[go_sem,simprocAttr,inL,Zbp,Zbr,ksF,kS,zR,yS,uZ];first|done|omega|(congr 1;done))),?_⟩);done)
 ·intro k hk;have hlk:=Zij l k;have hl1:(Zbp l k).length<=256:=by rw[Zbp,uD];omega
  have hl2:(Zbr l k).length<=256:=by rw[Zbr,uD];omega
  rcases uF k l.length with hlt|hge
  ·obtain⟨a,ha⟩:=Zad hlt;have hp:(Cyc.castA l)[k]? =some ((a.1:Int),(a.2:Int)):=Cyc.castA_get ha;by_cases c:a.1=a.2
   ·have c':(a.1:Int)=a.2:=by omega
    have hn:Zfg l k=false:=by rw[Zfg,ha];simp[c]
    have e1:Zbp l (k+1)=Zbp l k:=by rw[Zbp,Zbp,ZkU,hn];simp
    have e2:Zbr l (k+1)=Zbr l k:=by rw[Zbr,Zbr,ZkU,hn];simp
    refine kw1 kO (kc3 hp hcl @c') kc0 ?_;refine⟨k+1,?_,kN (kc2 e1 e2) [],?_⟩
    ·exact hlt
    ·omega
   ·have c':¬(a.1:Int)=a.2:=by omega
    have hn:Zfg l k=true:=by rw[Zfg,ha];simp[c]
    have e1:Zbp l (k+1)=Zbp l k++[((a.1:Int),(a.2:Int))]:=by rw[Zbp,Zbp,ZkU,hn];simp[Zjy,ha]
    have e2:Zbr l (k+1)=Zbr l k++[(k:Int)]:=by rw[Zbr,Zbr,ZkU,hn];simp
    refine kw1 kO (kc4 hp hcl @c' @Zat) kc0 ?_;refine⟨k+1,?_,kN (kc7 e1 e2 @uC.{0} @yT.{0} @uU.{0,0} @uV.{0,0} @yS.{0,0}) [(901,37),(902,44)],?_⟩
    ·exact hlt
    ·omega
  ·obtain rfl:k=l.length:=by omega
   refine kw1 kO kc0 kc0 ?_;refine⟨_,_,_,_,rfl,?_⟩;simp(disch:=omega) only[go_sem,simprocAttr];rw[Zat,Zat]
def ZkC (g:Gph)(l:List NA)(i:Nat):Sx.Bd:=match l[i]?,g.es[i]? with
 |some a,some e=>((a.1:Int),(a.2:Int),e.ln,e.wt)
 |_,_=>(0,0,0,0)
def Zbk (g:Gph)(l:List NA)(k:Nat):List Sx.Bd:=((ksF l l.length).take k).map (ZkC g l)
def Zca (g:Gph):Sx.Net:=((g.ns.length:Int),Zbk g (ZbG g) (ksF (ZbG g) (ZbG g).length).length)
theorem ZhT {g:Gph}{l:List NA}{k:Nat}(h:k<=(ksF l l.length).length):(Zbk g l k).length=k:=by
 rw[Zbk,uD,uS];omega
theorem ZqH {g:Gph}(hs:ZbF g){r f:List Int}(hS:Sx.SolveOk (Zca g) r f):Zaa Tryz.prog 48 [Znz g.ns.length (ZbG g),ZbU g] (.tup [Zab r,Zab f, .int 0]):=by
 obtain⟨n',hn',hr',hf',hS⟩:=hS;obtain⟨h256,_,_⟩:=Zf5 hs.ok;have hbl:=Ziy g;simp only[Zca]at hn' hf' hS;generalize ZbG g=l at*;have hlk:=Zij l l.length;have hlb:=ZhT (g:=g) (l:=l) (uH _);rw[hlb]at hf' hS;obtain rfl:n'=g.ns.length:=by omega
 have hpl:(Zbp l l.length).length=(ksF l l.length).length:=by rw[Zbp,uD]
 have hel:(Zbr l l.length).length=(ksF l l.length).length:=by rw[Zbr,uD]
 refine kE Tryz.func48 ?_;intro hat B X w0;refine kw1 kO (kc1 hpl) kc0 ?_;refine Zas _ (Zcy 7 1 901 4 rfl rfl rfl) ?_;refine Zaf (λ(k:Nat)=>k<=(ksF l l.length).length) (λ k=>[(2, .ptr 2 0 0 0),(3, .ptr 3 0 0 0),(7, .ptr 7 0 0 0),(17, .d (Zak (Zbp l l.length))),(18, .int (ksF l l.length).length),(19, .int k)]) (λ k=>[(2, .cells [.int g.ns.length, .d (Zak (Zbp l l.length)), .d (Zab (Zbr l l.length))]),(3, .cells [.d (Zbg g.nm), .d (.bool g.dir), .d (.sl (g.ns.map ndD)), .d (.sl (g.es.map edD)), .d (.sl (g.cs.map clD))]),(7, .cells [.int g.ns.length, .ref 901 4 0 (Zbk g l k).length (Zbk g l k).length]),(901, .row 4 ((Zbk g l k).map Sx.bdD))]) (λ k=>(ksF l l.length).length-k) 0 ?_ ?_ ?_
 ·exact uI _
 ·exact kN (kc4 @Zbk.eq_1 @qC.{0} @yS.{0,0} @uZ.{0}) []
 ·intro k hk;have hl1:=ZhT (g:=g) hk;rcases uF k (ksF l l.length).length with hlt|hge
  ·obtain⟨i,hi⟩:=Zad hlt;obtain⟨q1,q2⟩:=Zlm (uA hi);obtain⟨a,ha⟩:=Zad q1;obtain⟨e,he⟩:=Zad (l:=g.es) (k:=i) (by omega);have p1:(Zbp l l.length)[k]? =some ((a.1:Int),(a.2:Int)):=by rw[Zbp,uJ,hi];simp[Zjy,ha]
   have p2:(Zbr l l.length)[k]? =some (i:Int):=by rw[Zbr,uJ,hi];rfl
   have e1:Zbk g l (k+1)=Zbk g l k++[((a.1:Int),(a.2:Int),e.ln,e.wt)]:=by
    rw[Zbk,Zbk,ZaB hi,uU];simp[ZkC,ha,he]
   have htk:((Zbk g l k).map Sx.bdD).take k=(Zbk g l k).map Sx.bdD:=uG (by simp[hl1]);refine kw1 kO (kc7 p1 p2 he hpl hel hl1 htk) kc0 ?_;refine⟨k+1,?_,kN (kc7 e1 @uC.{0} @yT.{0} @uU.{0,0} @uV.{0,0} @yS.{0,0} hl1) [(901,45)],?_⟩
   ·exact hlt
   ·omega
  ·obtain rfl:k=(ksF l l.length).length:=by omega
   refine Zas _ (Zde 901 4 ((Zbk g l (ksF l l.length).length).map Sx.bdD) rfl (ZcW _ rfl) (by decide)) ?_;have htk0:((Zbk g l (ksF l l.length).length).map Sx.bdD).take (ksF l l.length).length=(Zbk g l (ksF l l.length).length).map Sx.bdD:=uG (by simp[hl1]);refine kw1 kO (kc3 htk0 @qU.{0} hl1) (kc1 (kmc [(2000,950),(2001,951)] hS)) ?_;exact⟨_,rfl,ZcK (o:=950) rfl rfl (by simp[Sx.intsL,hr']) (by rw[uG (by simp[Sx.intsL,hr'])]),ZcK (o:=951) rfl rfl (by simp[Sx.intsL,hf']) (by rw[uG (by simp[Sx.intsL,hf'])]),Zah rfl,trivial⟩
theorem ZxX {g:Gph}(hs:ZbF g){e:Int}(hS:Sx.SolveNo (Zca g) e):Zaa Tryz.prog 48 [Znz g.ns.length (ZbG g),ZbU g] (.tup [.sl [], .sl [], .int e]):=by
 unfold Sx.SolveNo at hS;obtain⟨h256,_,_⟩:=Zf5 hs.ok;have hbl:=Ziy g;simp only[Zca]at hS;generalize ZbG g=l at*;have hlk:=Zij l l.length;have hlb:=ZhT (g:=g) (l:=l) (uH _);have hpl:(Zbp l l.length).length=(ksF l l.length).length:=by rw[Zbp,uD]
 have hel:(Zbr l l.length).length=(ksF l l.length).length:=by rw[Zbr,uD]
 refine kE Tryz.func48 ?_;intro hat B X w0;refine kw1 kO (kc1 hpl) kc0 ?_;refine Zas _ (Zcy 7 1 901 4 rfl rfl rfl) ?_;refine Zaf (λ(k:Nat)=>k<=(ksF l l.length).length) (λ k=>[(2, .ptr 2 0 0 0),(3, .ptr 3 0 0 0),(7, .ptr 7 0 0 0),(17, .d (Zak (Zbp l l.length))),(18, .int (ksF l l.length).length),(19, .int k)]) (λ k=>[(2, .cells [.int g.ns.length, .d (Zak (Zbp l l.length)), .d (Zab (Zbr l l.length))]),(3, .cells [.d (Zbg g.nm), .d (.bool g.dir), .d (.sl (g.ns.map ndD)), .d (.sl (g.es.map edD)), .d (.sl (g.cs.map clD))]),(7, .cells [.int g.ns.length, .ref 901 4 0 (Zbk g l k).length (Zbk g l k).length]),(901, .row 4 ((Zbk g l k).map Sx.bdD))]) (λ k=>(ksF l l.length).length-k) 0 ?_ ?_ ?_
 ·exact uI _
 ·exact kN (kc4 @Zbk.eq_1 @qC.{0} @yS.{0,0} @uZ.{0}) []
 ·intro k hk;have hl1:=ZhT (g:=g) hk;rcases uF k (ksF l l.length).length with hlt|hge
  ·obtain⟨i,hi⟩:=Zad hlt;obtain⟨q1,q2⟩:=Zlm (uA hi);obtain⟨a,ha⟩:=Zad q1;obtain⟨e,he⟩:=Zad (l:=g.es) (k:=i) (by omega);have p1:(Zbp l l.length)[k]? =some ((a.1:Int),(a.2:Int)):=by rw[Zbp,uJ,hi];simp[Zjy,ha]
   have p2:(Zbr l l.length)[k]? =some (i:Int):=by rw[Zbr,uJ,hi];rfl
   have e1:Zbk g l (k+1)=Zbk g l k++[((a.1:Int),(a.2:Int),e.ln,e.wt)]:=by
    rw[Zbk,Zbk,ZaB hi,uU];simp[ZkC,ha,he]
   have htk:((Zbk g l k).map Sx.bdD).take k=(Zbk g l k).map Sx.bdD:=uG (by simp[hl1]);refine kw1 kO (kc7 p1 p2 he hpl hel hl1 htk) kc0 ?_;refine⟨k+1,?_,kN (kc7 e1 @uC.{0} @yT.{0} @uU.{0,0} @uV.{0,0} @yS.{0,0} hl1) [(901,45)],?_⟩
   ·exact hlt
   ·omega
  ·obtain rfl:k=(ksF l l.length).length:=by omega
   refine Zas _ (Zde 901 4 ((Zbk g l (ksF l l.length).length).map Sx.bdD) rfl (ZcW _ rfl) (by decide)) ?_;have htk0:((Zbk g l (ksF l l.length).length).map Sx.bdD).take (ksF l l.length).length=(Zbk g l (ksF l l.length).length).map Sx.bdD:=uG (by simp[hl1]);refine kw1 kO (kc3 htk0 @qU.{0} hl1) (kc1 (kmc [(2000,950),(2001,951)] hS)) ?_;exact⟨_,rfl,rfl,rfl,Zah rfl,trivial⟩
theorem Zr9 (a b:List Int):Zaa Tryz.prog 31 [Zab a,Zab b] (.bool (decide (a=b))):=by
 refine kE Tryz.func31 ?_;intro hat B X w0;have hl:=ZaU 0 hat rfl;rw[uD]at hl;by_cases hab:a.length=b.length
 ·have hab':(a.length:Int)=b.length:=by omega
  refine kw1 kO (kc1 @hab') kc0 ?_;refine Zaf (λ(k:Nat)=>k<=a.length/\a.take k=b.take k) (λ k=>[(0, .d (Zab a)),(1, .d (Zab b)),(5, .int k)]) (λ k=>[]) (λ k=>a.length-k) 0 ?_ ?_ ?_
  ·exact⟨uI _,rfl⟩
  ·exact kN kc0 []
  ·rintro k ⟨hk,hinv⟩;rcases uF k a.length with hlt|hge
   ·obtain⟨x,hx⟩:=Zad hlt;obtain⟨y,hy⟩:=Zad (l:=b) (k:=k) (by omega);by_cases c:x=y
    ·subst c;refine kw1 kO (kc2 hx hy) kc0 ?_;refine⟨k+1,?_,kN kc0 [],?_⟩
     ·exact⟨hlt,by rw[ZaB hx,ZaB hy,hinv]⟩
     ·omega
    ·refine kw1 kO (kc3 hx hy c) kc0 ?_;exact Zaj (by rw[yE (ZgQ hx hy c)])
   ·refine kw1 kO kc0 kc0 ?_;refine Zaj ?_;rw[uG hge,uG (by omega)]at hinv;rw[yN hinv]
 ·have hab':¬(a.length:Int)=b.length:=by omega
  refine kw1 kO (kc1 @hab') kc0 ?_;exact Zaj (by rw[yE (λ h=>hab (by rw[h]))])
def Ze3 (m:Nat)(ks:List Nat)(f:List Int):Nat->List Int
 |0=>List.replicate m 0
 |k+1=>(Ze3 m ks f k).set (ks[k]?.getD 0) (f[k]?.getD 0)
theorem Zus (m:Nat)(ks:List Nat)(f:List Int):∀k,(Ze3 m ks f k).length=m:=by
 intro k
 induction k with
 |zero=>simp[Ze3]
 |succ k ih=>rw[Ze3,yI,ih]
def Zko (g:Gph)(f:List Int):List Int:=Ze3 g.es.length (ksF (ZbG g) (ZbG g).length) f (ksF (ZbG g) (ZbG g).length).length
theorem Zyc {g:Gph}(hs:ZbF g){r f:List Int}(hS:Sx.SolveOk (Zca g) r f):Zaa Tryz.prog 29 [ZbU g] (.tup [Zab r,Zab (Zko g f), .int 0]):=by
 have h1:=ZjU g hs.md;rw[hs.ok]at h1;have h2:=ZmQ hs;have h3:=ZqH hs hS;obtain⟨n',hn',hr',hf',_⟩:=hS;obtain⟨h256,_,_⟩:=Zf5 hs.ok;have hbl:=Ziy g;rw[Zko];simp only[Zca]at hf';rw[ZhT (uH _)]at hf';generalize ZbG g=l at*;have hlk:=Zij l l.length;have hel:(Zbr l l.length).length=(ksF l l.length).length:=by rw[Zbr,uD]
 refine kE Tryz.func29 ?_;intro hat B X w0;refine kw1 kO (kc1 hel) (kc3 h1 h2 h3) ?_;refine Zaf (λ(k:Nat)=>k<=(ksF l l.length).length) (λ k=>[(7, .d (Zab r)),(8, .d (Zab f)),(10, .ref 33 1 0 g.es.length g.es.length),(35, .d (Zab (Zbr l l.length))),(36, .int (ksF l l.length).length),(37, .int k)]) (λ k=>[(33, .row 1 ((Ze3 g.es.length (ksF l l.length) f k).map D.int))]) (λ k=>(ksF l l.length).length-k) 0 ?_ ?_ ?_
 ·exact uI _
 ·exact kN (kc2 @Ze3.eq_1 @zP.{0,0}) []
 ·intro k hk;have hal:=Zus g.es.length (ksF l l.length) f k;rcases uF k (ksF l l.length).length with hlt|hge
  ·obtain⟨i,hi⟩:=Zad hlt;obtain⟨x,hx⟩:=Zad (l:=f) (k:=k) (by omega);obtain⟨q1,q2⟩:=Zlm (uA hi);have p2:(Zbr l l.length)[k]? =some (i:Int):=by rw[Zbr,uJ,hi];rfl
   obtain⟨y,hy⟩:=Zad (l:=Ze3 g.es.length (ksF l l.length) f k) (k:=i) (by omega);have e1:Ze3 g.es.length (ksF l l.length) f (k+1)=(Ze3 g.es.length (ksF l l.length) f k).set i x:=by rw[Ze3,hi,hx];rfl
   refine kw1 kO (kc5 p2 hel hx hy hal) kc0 ?_;refine⟨k+1,?_,kN (kc2 e1 @yP.{0,0}) [],?_⟩
   ·exact hlt
   ·omega
  ·obtain rfl:k=(ksF l l.length).length:=by omega
   refine kw1 kO kc0 kc0 ?_;exact⟨_,rfl,rfl,ZcK (o:=33) rfl rfl (by simp[hal]) (by rw[uG (by simp[hal])]),Zah rfl,trivial⟩
abbrev ZnM (c:UInt8):Nd:=⟨⟨#[c]⟩,⟨#[97]⟩,20000,10000,-1,[]⟩
abbrev Zo7 (t:Int):Ed:=⟨0,t,-1,-1,⟨#[]⟩,1,1⟩
abbrev ZfC :Gph:=⟨⟨#[103]⟩,true,[ZnM 97,ZnM 98,ZnM 99],[Zo7 1,Zo7 2],[]⟩
theorem ZCG :Mod ZfC:=by
 refine⟨by decide,λ n hn=>?_,λ e he=>?_,λ c hc=>by cases hc⟩
 ·simp only[yK,jQ,Cv]at hn;rcases hn with rfl|rfl|rfl<;>exact⟨by decide,by decide,λ p hp=>by cases hp⟩
 ·simp only[yK,jQ,Cv]at he;rcases he with rfl|rfl<;>decide
theorem Zxf :Zdw ZfC=0:=by decide+kernel
theorem Zup :ZbF ZfC:=⟨ZCG,Zxf,by decide⟩
theorem ZrM :ZbG ZfC=[(0,1),(0,2)]:=by decide+kernel
theorem ZtF :Zca ZfC=(3,[(0,1,1,1),(0,2,1,1)]):=by rw[Zca,ZrM];decide+kernel
theorem ZAS :Sx.SolveOk (Zca ZfC) [0,1,1] [1,1]:=by
 rw[ZtF];exact Sx.solve_of 3 _ 10 _ _ (by decide+kernel) (by decide+kernel) (by decide+kernel) (by decide+kernel) (by decide+kernel) (by decide+kernel)
theorem Zx2 :Zaa Tryz.prog 29 [ZbU ZfC] (.tup [Zab [0,1,1],Zab [1,1], .int 0]):=by
 have h:=Zyc Zup ZAS;rw[show Zko ZfC [1,1]=[1,1] by rw[Zko,ZrM];decide+kernel]at h;exact h
theorem Zvi :Zaa Tryz.prog 44 [] (ZbU ZfC):=by
 refine kE Tryz.func44 ?_;intro hat B X w0;refine kw1 (kow (Nat.beq 7) (b:=true)) kc0 kc0 ?_;refine⟨_,_,_,_,rfl,?_⟩;simp(disch:=omega) only[go_sem,simprocAttr];rfl
theorem Zyk :Zaa Tryz.prog 12 [] (.bool true):=by
 have h1:=Zvi;have h2:=Zx2;have h3:=Zr9 [0,1,1] [0,1,1];rw[yN rfl]at h3;refine kE Tryz.func12 ?_;intro hat B X w0;refine kw1 kO kc0 (kc3 h1 h2 h3) ?_;exact Zaj rfl
end Go.Proofs.YtjjbhjnpeenbkaaGreatDoor.Gr
namespace Go.Proofs.YtjjbhjnpeenbkaaGreatDoor.Gr
open Go Go.PS Go.Proofs Go.Proofs.YtjjbhjnpeenbkaaGreatDoor
set_option maxRecDepth 100000
attribute [local irreducible] Zac wpG Zaa Zag
theorem Ziq {α:Type}{q:α->Bool}{l:List α}{k:Nat}{x:α}(h:l[k]? =some x)(hq:q x=false):l.all q=false:=by
 rw[List.all_eq_false];exact⟨x,uA h,by rw[hq];decide⟩
theorem Zku {α:Type}{q:α->Bool}{l:List α}{k:Nat}(hk:l.length<=k)(h:∀(j:Nat) y,j<k->l[j]? =some y->q y=true):l.all q=true:=by
 rw[uY];intro x hx;obtain⟨j,hj⟩:=jC.1 hx;exact h j x (by have:=(uB.1 hj).1;omega) hj
def ptF (p:Pt):Bool:=decide (p.nm.size<=40)
def ndF (n:Nd):Bool:=decide (n.nm.size<=40/\n.lb.size<=80/\n.ps.length<=9)&&n.ps.all ptF
def edF (e:Ed):Bool:=decide (e.lb.size<=80/\e.ln<=4)
def clF (c:Cl):Bool:=decide (c.nm.size<=40)
def ZfM (g:Gph)(n m:Nat):Bool:=decide (g.ns.length<=n/\g.es.length<=m/\g.cs.length<=6/\g.nm.size<=40)&&(g.ns.all ndF&&(g.es.all edF&&g.cs.all clF))
theorem Zue (g:Gph)(n m:Nat)(hn:n<=100)(hm:m<=100):Zaa Tryz.prog 11 [ZbU g, .int n, .int m] (.bool (ZfM g n m)):=by
 by_cases c0:g.ns.length<=n/\g.es.length<=m/\g.cs.length<=6/\g.nm.size<=40
 ·obtain⟨a1,a2,a3,a4⟩:=c0;rw[ZfM,yN ⟨a1,a2,a3,a4⟩,kJ];have b1:¬(n:Int)<g.ns.length:=by omega
  have b2:¬(m:Int)<g.es.length:=by omega
  have b3:¬(6:Int)<g.cs.length:=by omega
  have b4:¬(40:Int)<g.nm.size:=by omega
  refine kE Tryz.func11 ?_;intro hat B X w0;refine kw1 kO (kc4 b1 b2 b3 b4) kc0 ?_;refine Zaf (λ(k:Nat)=>k<=g.ns.length/\∀(j:Nat) y,j<k->g.ns[j]? =some y->ndF y=true) (λ k=>[(3, .ptr 3 0 0 0),(7, .int k)]) (λ k=>[(3, .cells [.d (Zbg g.nm), .d (.bool g.dir), .d (.sl (g.ns.map ndD)), .d (.sl (g.es.map edD)), .d (.sl (g.cs.map clD))])]) (λ k=>g.ns.length-k) 0 ?_ ?_ ?_
  ·exact⟨uI _,λ j y h=>by omega⟩
  ·exact kN kc0 []
  ·rintro k ⟨hk,hinv⟩;rcases uF k g.ns.length with hlt|hge
   ·obtain⟨x,hx⟩:=Zad hlt;by_cases c1:x.nm.size<=40/\x.lb.size<=80/\x.ps.length<=9
    ·obtain⟨d1,d2,d3⟩:=c1;have f1:¬(40:Int)<x.nm.size:=by omega
     have f2:¬(80:Int)<x.lb.size:=by omega
     have f3:¬(9:Int)<x.ps.length:=by omega
     have hx2:ndF x=x.ps.all ptF:=by rw[ndF,yN ⟨d1,d2,d3⟩,kJ]
     refine kw1 kO (kc4 hx f1 f2 f3) kc0 ?_;refine Zaf (λ(j:Nat)=>j<=x.ps.length/\∀(i:Nat) y,i<j->x.ps[i]? =some y->ptF y=true) (λ j=>[(3, .ptr 3 0 0 0),(7, .int k),(8, .ptr 8 0 0 0),(9, .int j)]) (λ j=>[(3, .cells [.d (Zbg g.nm), .d (.bool g.dir), .d (.sl (g.ns.map ndD)), .d (.sl (g.es.map edD)), .d (.sl (g.cs.map clD))]),(8, .cells [.d (Zbg x.nm), .d (Zbg x.lb), .int x.w, .int x.h, .int x.cl, .d (.sl (x.ps.map ptD))])]) (λ j=>x.ps.length-j) 0 ?_ ?_ ?_
     ·exact⟨uI _,λ j y h=>by omega⟩
     ·exact kN kc0 []
     ·rintro j ⟨hj,hjn⟩;rcases uF j x.ps.length with hjl|hjg
      ·obtain⟨p,hp⟩:=Zad hjl;by_cases c2:p.nm.size<=40
       ·have f4:¬(40:Int)<p.nm.size:=by omega
        refine kw1 kO (kc2 hp f4) kc0 ?_;refine⟨j+1,?_,kN kc0 [],?_⟩
        ·exact⟨hjl,Zbe hjn hp (yN c2)⟩
        ·omega
       ·have f4:(40:Int)<p.nm.size:=by omega
        refine kw1 kO (kc2 hp f4) kc0 ?_;exact Zaj (by rw[Ziq hx (by rw[hx2];exact Ziq hp (yE c2))];rfl)
      ·refine kw1 kO kc0 kc0 ?_;refine⟨k+1,?_,kN kc0 [],?_⟩
       ·exact⟨hlt,Zbe hinv hx (by rw[hx2];exact Zku hjg hjn)⟩
       ·omega
    ·have hx2:ndF x=false:=by rw[ndF,yE c1];rfl
     refine kw kO (kc1 hx) kc0 ?_
     repeat' first|exact True.intro|refine Bn.mk ?_ ?_|intro hc
     all_goals first|(refine Zaj ?_;rw[Ziq hx hx2];rfl)|(exfalso;omega)
   ·refine kw1 kO kc0 kc0 ?_;refine Zaf (λ(j:Nat)=>j<=g.es.length/\∀(i:Nat) y,i<j->g.es[i]? =some y->edF y=true) (λ j=>[(3, .ptr 3 0 0 0),(10, .int j)]) (λ j=>[(3, .cells [.d (Zbg g.nm), .d (.bool g.dir), .d (.sl (g.ns.map ndD)), .d (.sl (g.es.map edD)), .d (.sl (g.cs.map clD))])]) (λ j=>g.es.length-j) 0 ?_ ?_ ?_
    ·exact⟨uI _,λ j y h=>by omega⟩
    ·exact kN kc0 []
    ·rintro j ⟨hj,hjn⟩;rw[Zku hge hinv,kJ];rcases uF j g.es.length with hjl|hjg
     ·obtain⟨e,he⟩:=Zad hjl;by_cases c2:e.lb.size<=80
      ·have f4:¬(80:Int)<e.lb.size:=by omega
       by_cases c3:e.ln<=4
       ·have f5:¬(4:Int)<e.ln:=by omega
        refine kw1 kO (kc3 he f4 f5) kc0 ?_;refine⟨j+1,?_,kN kc0 [],?_⟩
        ·exact⟨hjl,Zbe hjn he (yN ⟨c2,c3⟩)⟩
        ·omega
       ·have f5:(4:Int)<e.ln:=by omega
        refine kw1 kO (kc3 he f4 f5) kc0 ?_;exact Zaj (by rw[Ziq he (yE (λ h=>c3 h.2))];rfl)
      ·have f4:(80:Int)<e.lb.size:=by omega
       refine kw1 kO (kc2 he f4) kc0 ?_;exact Zaj (by rw[Ziq he (yE (λ h=>c2 h.1))];rfl)
     ·rw[Zku hjg hjn,kJ];refine kw1 kO kc0 kc0 ?_;refine Zaf (λ(j:Nat)=>j<=g.cs.length/\∀(i:Nat) y,i<j->g.cs[i]? =some y->clF y=true) (λ j=>[(3, .ptr 3 0 0 0),(11, .int j)]) (λ j=>[(3, .cells [.d (Zbg g.nm), .d (.bool g.dir), .d (.sl (g.ns.map ndD)), .d (.sl (g.es.map edD)), .d (.sl (g.cs.map clD))])]) (λ j=>g.cs.length-j) 0 ?_ ?_ ?_
      ·exact⟨uI _,λ j y h=>by omega⟩
      ·exact kN kc0 []
      ·rintro j ⟨hj,hjn⟩;rcases uF j g.cs.length with hjl|hjg
       ·obtain⟨c,hc⟩:=Zad hjl;by_cases c2:c.nm.size<=40
        ·have f4:¬(40:Int)<c.nm.size:=by omega
         refine kw1 kO (kc2 hc f4) kc0 ?_;refine⟨j+1,?_,kN kc0 [],?_⟩
         ·exact⟨hjl,Zbe hjn hc (yN c2)⟩
         ·omega
        ·have f4:(40:Int)<c.nm.size:=by omega
         refine kw1 kO (kc2 hc f4) kc0 ?_;exact Zaj (by rw[Ziq hc (yE c2)])
       ·refine kw1 kO kc0 kc0 ?_;exact Zaj (by rw[Zku hjg hjn])
 ·rw[ZfM,yE c0,Cu];refine kE Tryz.func11 ?_;intro hat B X w0;refine kw kO kc0 kc0 ?_
  repeat' first|exact True.intro|refine Bn.mk ?_ ?_|intro hc
  all_goals first|exact Zaj rfl|(exfalso;omega)
theorem ZoI {g:Gph}{n m:Nat}(h:ZfM g n m=true):g.ns.length<=n/\g.es.length<=m/\Mod g/\∀e∈g.es,e.ln<=4:=by
 simp only[ZfM,uK,uE,uY]at h;obtain⟨⟨h1,h2,h3,h4⟩,h5,h6,h7⟩:=h;refine⟨h1,h2,⟨by omega,λ x hx=>?_,λ e he=>?_,λ c hc=>?_⟩,λ e he=>?_⟩
 ·have:=h5 x hx;simp only[ndF,uK,uE,uY]at this;obtain⟨⟨g1,g2,g3⟩,g4⟩:=this;exact⟨by omega,by omega,λ p hp=>by have:=g4 p hp;rw[ptF,uE]at this;omega⟩
 ·have:=h6 e he;rw[edF,uE]at this;omega
 ·have:=h7 c hc;rw[clF,uE]at this;omega
 ·have:=h6 e he;rw[edF,uE]at this;omega
open Go.Cy (NA InN ZdR ZcQ)
theorem Zql {g:Gr}{r:List Int}(h:(ZaG g r).2=0)(hl:g.2.length<=100):wide (ZaG g r).1/\(ZaG g r).1.2.2.1.length<=700:=by
 have b:=built h;have hA:=Zk5 b.gap g.2.length (uH _);have hB:=ZlG b.gap g.2.length (uH _);have h1:=b.big;have h2:=b.len;obtain⟨_,h4,_⟩:=Zid b.gok;rw[b.eq];dsimp only;refine⟨λ y hy=>?_,?_⟩
 ·rw[ZpG,ZbE]at hy;obtain⟨k,_,rfl⟩:=uN.1 hy;have:(ZaV (Zaz r g.2 g.2.length) k).length<=(Zaz r g.2 g.2.length).length:=by
   rw[ZaV,uD];have:=jY (λ v=>decide ((Zaz r g.2 g.2.length)[v]? =some (k:Int))) (List.range (Zaz r g.2 g.2.length).length);rw[zA]at this;exact this
  omega
 ·show(ZaP r g.2 g.2.length).length<=700;omega
def pGr (g:Gph):Gr:=((g.ns.length:Int),Zbp (ZbG g) (ZbG g).length)
def Zjz (g:Gph)(o:Opt)(r:List Int):Lv×Int×Int:=if(ZaG (pGr g) r).2=0 then ZhG (ZaG (pGr g) r).1 o.rd else(lv0,0,2)
theorem ZpE {g:Gph}:(pGr g).2.length<=g.es.length:=by
 have:=Zij (ZbG g) (ZbG g).length;rw[pGr,Zbp,uD];have:=Ziy g;omega
theorem ZwF {g:Gph}(o:Opt)(hm:Mod g)(h:Zdw g≠0):Zaa Tryz.prog 13 [ZbU g,Zgb o] (.tup [lvD lv0, .int 0, .int (Zdw g)]):=by
 have h1:=ZjU g hm;refine kE Tryz.func13 ?_;intro hat B X w0;refine kw1 kO (kc1 h) (kc1 h1) ?_;refine⟨_,rfl,⟨_,_,_,_,rfl,?_⟩,Zah ?_,Zah ?_,trivial⟩
 ·simp(disch:=omega) only[go_sem,simprocAttr];rfl
 ·rfl
 ·rfl
theorem ZCP {g:Gph}{o:Opt}(hm:Mod g)(h:Zdw g=0)(ho:okO o=false):Zaa Tryz.prog 13 [ZbU g,Zgb o] (.tup [lvD lv0, .int 0, .int 7]):=by
 have h1:=ZjU g hm;rw[h]at h1;have h2:=ZlV o;rw[ho]at h2;refine kE Tryz.func13 ?_;intro hat B X w0;refine kw1 kO kc0 (kc2 h1 h2) ?_;refine⟨_,rfl,⟨_,_,_,_,rfl,?_⟩,Zah ?_,Zah ?_,trivial⟩
 ·simp(disch:=omega) only[go_sem,simprocAttr];rfl
 ·rfl
 ·rfl
theorem ZtH {g:Gph}{o:Opt}(hs:ZbF g)(ho:okO o=true){e:Int}(hS:Sx.SolveNo (Zca g) e)(he:e≠0):Zaa Tryz.prog 13 [ZbU g,Zgb o] (.tup [lvD lv0, .int 0, .int e]):=by
 have h1:=ZjU g hs.md;rw[hs.ok]at h1;have h2:=ZlV o;rw[ho]at h2;have h3:=ZmQ hs;have h4:=ZxX hs hS;refine kE Tryz.func13 ?_;intro hat B X w0;refine kw1 kO (kc1 he) (kc4 h1 h2 h3 h4) ?_;refine⟨_,rfl,⟨_,_,_,_,rfl,?_⟩,Zah ?_,Zah ?_,trivial⟩
 ·simp(disch:=omega) only[go_sem,simprocAttr];rfl
 ·rfl
 ·rfl
theorem Zt6 {g:Gph}{o:Opt}(hs:ZbF g)(hl:g.es.length<=100)(ho:okO o=true){r f:List Int}(hS:Sx.SolveOk (Zca g) r f):
  Zaa Tryz.prog 13 [ZbU g,Zgb o] (.tup [lvD (Zjz g o r).1, .int (Zjz g o r).2.1, .int (Zjz g o r).2.2]):=by
 have h1:=ZjU g hs.md;rw[hs.ok]at h1;have h2:=ZlV o;rw[ho]at h2;have h3:=ZmQ hs;have h4:=ZqH hs hS;have h5:Zaa Tryz.prog 49 [.ag [.int g.ns.length,Zak (Zbp (ZbG g) (ZbG g).length)],Zab r] (.tup [lvD (ZaG (pGr g) r).1, .int (ZaG (pGr g) r).2]):=Zsw (pGr g) r;have hpl:=ZpE (g:=g);rw[Zjz];by_cases hb:(ZaG (pGr g) r).2=0
 ·rw[if_pos hb];obtain⟨q1,q2⟩:=Zql hb (by omega);have h6:=Zuu (ZaG (pGr g) r).1 o.rd q1 q2;rw[hb]at h5;generalize(ZaG (pGr g) r).1=b at*;generalize ZhG b o.rd=R at*;obtain⟨n,ls,ar,cs⟩:=b;obtain⟨⟨n',ls',ar',cs'⟩,R2,R3⟩:=R;refine kE Tryz.func13 ?_;intro hat B X w0;refine kw1 kO kc0 (kc6 h1 h2 h3 h4 h5 h6) ?_;refine⟨_,rfl,⟨_,_,_,_,rfl,?_⟩,Zah ?_,Zah ?_,trivial⟩
  ·simp(disch:=omega) only[go_sem,simprocAttr]
  ·rfl
  ·rfl
 ·rw[if_neg hb];generalize ZaG (pGr g) r=b at*;obtain⟨⟨n,ls,ar,cs⟩,b2⟩:=b;dsimp only at hb h5;refine kE Tryz.func13 ?_;intro hat B X w0;refine kw1 kO (kc1 hb) (kc5 h1 h2 h3 h4 h5) ?_;refine⟨_,rfl,⟨_,_,_,_,rfl,?_⟩,Zah ?_,Zah ?_,trivial⟩
  ·simp(disch:=omega) only[go_sem,simprocAttr];rfl
  ·rfl
  ·rfl
end Go.Proofs.YtjjbhjnpeenbkaaGreatDoor.Gr
