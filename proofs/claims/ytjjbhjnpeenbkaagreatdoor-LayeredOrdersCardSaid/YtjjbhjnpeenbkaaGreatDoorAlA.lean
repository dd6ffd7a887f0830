/- Vertices, widths, weights, validity. -/
import Derived.Test.YtjjbhjnpeenbkaaGreatDoorG
import Derived.Test.YtjjbhjnpeenbkaaGreatDoorQ
import Derived.Test.YtjjbhjnpeenbkaaGreatDoorSxA
import Derived.Test.YtjjbhjnpeenbkaaGreatDoorSxZd
import Derived.Test.YtjjbhjnpeenbkaaGreatDoorPSCode
import Derived.Test.YtjjbhjnpeenbkaaGreatDoorSxL
import Derived.Test.YtjjbhjnpeenbkaaGreatDoorSxVd
set_option linter.unusedSimpArgs false
set_option linter.unusedVariables false
set_option maxHeartbeats 16000000
namespace Go.Proofs.YtjjbhjnpeenbkaaGreatDoor.Al
open Go Go.PS Go.Proofs
set_option maxRecDepth 100000
attribute [local irreducible] ao wpG ah ax
theorem IR (a:Lv)(h:tot a.2.1<=1000000):ah Tryz.prog 59 [lvD a] (.int (tot a.2.1)):=by
 obtain⟨n,Z,O,N⟩:=a;dsimp only at h;refine kE Tryz.func59 ?_;intro Y B X L;have U:=cO 0 1 Y rfl rfl;rw[uC]at U;dsimp only at U;refine ac kO aa aa ?_;refine aq (λ(k:Nat)=>k<=Z.length) (λ k=>[(3, .int (tot (Z.take k))),(7, .d (am Z)),(8, .int Z.length),(9, .int k)]) (λ k=>[]) (λ k=>Z.length-k) 0 ?_ ?_ ?_
 ·exact uF _
 ·exact kN aa []
 ·intro k T;rcases uD k Z.length with V|Q
  ·obtain⟨y,S⟩:=ak V;have e:=sC S;have M:=ql Z (k+1);have R:((tot (Z.take k):Nat):Int)+y.length=(tot (Z.take (k+1)):Nat):=xA;refine ac kO (ai S R) aa ?_;refine⟨k+1,?_,kN aa [],?_⟩
   ·omega
   ·omega
  ·have T:k=Z.length:=xA;subst T;rw[yE];refine ac kO aa aa ?_;exact rfl
theorem Hv (a:Lv)(h:tot a.2.1<=1000000):ah Tryz.prog 118 [lvD a] (.int (tot a.2.1)):=by
 obtain⟨n,Z,R,Q⟩:=a;dsimp only at h;refine kE Tryz.func118 ?_;intro Y B X L;have U:=cO 0 1 Y rfl rfl;rw[uC]at U;dsimp only at U;refine ac kO aa aa ?_;refine aq (λ(k:Nat)=>k<=Z.length) (λ k=>[(1, .ptr 1 0 0 0),(3, .int (tot (Z.take k))),(4, .int k)]) (λ k=>[(1, .cells [.int n, .d (am Z), .d (aw R), .d (am Q)])]) (λ k=>Z.length-k) 0 ?_ ?_ ?_
 ·exact uF _
 ·exact kN aa []
 ·intro k T;rcases uD k Z.length with V|N
  ·obtain⟨y,S⟩:=ak V;have e:=sC S;have M:=ql Z (k+1);have O:((tot (Z.take k):Nat):Int)+y.length=(tot (Z.take (k+1)):Nat):=xA;refine ac kO (ai S O) aa ?_;refine⟨k+1,?_,kN aa [],?_⟩
   ·omega
   ·omega
  ·have T:k=Z.length:=xA;subst T;rw[yE];refine ac kO aa aa ?_;exact rfl
def il (n:Int)(x:Arc):Int:=if n<=x.1/\n<=x.2 then 8 else if n<=x.1\/n<=x.2 then 2 else 1
theorem T0 (a:Lv)(x:Arc):ah Tryz.prog 115 [lvD a,bo x] (.int (il a.1 x)):=by
 obtain⟨n,U,Z,Y⟩:=a;refine kE Tryz.func115 ?_;intro h B X T;refine kw kO aa aa ?_
 repeat' first|exact True.intro|refine Bn.mk ?_ ?_|intro V
 all_goals
  refine ap ?_;rw[il]
  repeat' split
  all_goals omega
theorem RC (a:Lv)(x:Arc):ah Tryz.prog 66 [lvD a,bo x] (.int (il a.1 x)):=by
 obtain⟨n,U,Z,Y⟩:=a;refine kE Tryz.func66 ?_;intro h B X T;refine kw kO aa aa ?_
 repeat' first|exact True.intro|refine Bn.mk ?_ ?_|intro V
 all_goals
  refine ap ?_;rw[il]
  repeat' split
  all_goals omega
def eV (ws:List Int)(v:Int):Int:=if v<ws.length then at0 ws v else 0
theorem IX (ws:List Int)(v:Int)(Y:0<=v):ah Tryz.prog 117 [aj ws, .int v] (.int (eV ws v)):=by
 refine kE Tryz.func117 ?_;intro h B X U;have V:=bI 0 h rfl;rw[uC]at V;by_cases c:v<ws.length
 ·have Z:=fP Y c;obtain⟨n,rfl⟩:∃n:Nat,v=n:=⟨v.toNat,xA⟩;rw[uK]at Z;refine ac kO (ae Z) aa ?_;refine ap ?_;rw[eV,if_pos c]
 ·refine ac kO aa aa ?_;refine ap ?_;rw[eV,if_neg c]
theorem Hw (ws:List Int)(v:Int)(Y:0<=v):ah Tryz.prog 119 [aj ws, .int v] (.int (eV ws v)):=by
 refine kE Tryz.func119 ?_;intro h B X U;have V:=bI 0 h rfl;rw[uC]at V;by_cases c:v<ws.length
 ·have Z:=fP Y c;obtain⟨n,rfl⟩:∃n:Nat,v=n:=⟨v.toNat,xA⟩;rw[uK]at Z;refine ac kO (ae Z) aa ?_;refine ap ?_;rw[eV,if_pos c]
 ·refine ac kO aa aa ?_;refine ap ?_;rw[eV,if_neg c]
def szB (n:Int):Bool:=decide (0<=n/\n<=1048576)
theorem ss (n:Int):ah Tryz.prog 116 [.int n] (.bool (szB n)):=by
 refine kE Tryz.func116 ?_;intro h B X Y;refine kw kO aa aa ?_
 repeat' first|exact True.intro|refine Bn.mk ?_ ?_|intro Z
 all_goals
  refine ay ?_;simp[szB];omega
def eU (a:Lv)(ws:List Int)(sep:Int):Bool:=aH a&&decide ((ws.length:Int)=a.1)&&szB sep&& !ws.any λ w=> !szB w
theorem TQ (a:Lv)(ws:List Int)(sep:Int)(H:wide a):ah Tryz.prog 60 [lvD a,aj ws, .int sep] (.bool (eU a ws sep)):=by
 have S:=oh a H;have Q:=ss sep;rcases Y:aH a with _|_
 ·rw[Y]at S;refine kE Tryz.func60 ?_;intro Z B X K;have R:=bI 1 Z rfl;rw[uC]at R;refine ac kO aa (ae S) ?_;refine ay ?_;rw[eU,Y];rfl
 rw[Y]at S;rcases V:szB sep with _|_
 ·rw[V]at Q;refine kE Tryz.func60 ?_;intro Z B X K;have R:=bI 1 Z rfl;rw[uC]at R;refine kw kO aa (ai S Q) ?_
  repeat' first|exact True.intro|refine Bn.mk ?_ ?_|intro G
  all_goals
   refine ay ?_;rw[eU,V];simp
 rw[V]at Q;by_cases O:(ws.length:Int)=a.1
 ·have I:=(qm Y).1;simp only[ld,uG]at I;have e:eU a ws sep= !ws.any λ w=> !szB w:=by simp[eU,Y,V,O]
  rw[e];refine kE Tryz.func60 ?_;intro Z B X K;refine ac kO (ae O) (ai S Q) ?_;refine aq (λ(k:Nat)=>k<=ws.length/\∀(j:Nat) y,j<k->ws[j]? =some y->(!szB y)=false) (λ k=>[(24, .d (aj ws)),(25, .int ws.length),(26, .int k)]) (λ k=>[]) (λ k=>ws.length-k) 0 ?_ ?_ ?_
  ·exact⟨uF _,λ j y h=>xA⟩
  ·exact kN aa []
  ·rintro k ⟨E,T⟩;rcases uD k ws.length with L|J
   ·obtain⟨y,N⟩:=ak L;have M:=ss y;rcases U:szB y with _|_
    ·rw[U]at M;refine ac kO (ae N) (ae M) ?_;refine ay ?_;rw[dk N (by simp[U])];rfl
    ·rw[U]at M;refine ac kO (ae N) (ae M) ?_;refine⟨k+1,?_,kN aa [],?_⟩
     ·exact⟨xA,b9 T N (by simp[U])⟩
     ·omega
   ·refine ac kO aa aa ?_;refine ay ?_;rw[d6 (λ j y F=>T j y xA)];rfl
 ·refine kE Tryz.func60 ?_;intro Z B X K;have R:=bI 1 Z rfl;rw[uC]at R;refine ac kO (ae O) (ai S Q) ?_;refine ay ?_;simp[eU,O]
theorem RB (a:Lv)(ws:List Int)(sep:Int)(K:wide a):ah Tryz.prog 63 [lvD a,aj ws, .int sep] (.bool (eU a ws sep)):=by
 have U:=km a K;rw[<-kt]at U;rcases Z:aH a with _|_
 ·rw[Z]at U;refine kE Tryz.func63 ?_;intro Y B X O;have S:=bI 1 Y rfl;rw[uC]at S;refine ac kO aa (ae U) ?_;refine ay ?_;rw[eU,Z];rfl
 rw[Z]at U;by_cases T:(ws.length:Int)=a.1
 ·have L:=(qm Z).1;simp only[ld,uG]at L;refine kE Tryz.func63 ?_;intro Y B X O;refine kw kO (ae T) (ae U) ?_
  repeat' first|exact True.intro|refine Bn.mk ?_ ?_|intro N
  ·refine ay ?_;rw[eU,szB];simp;omega
  ·refine ay ?_;rw[eU,szB];simp;omega
  have e:eU a ws sep= !ws.any λ w=> !szB w:=by
   have:szB sep=true:=by rw[szB,uG];omega
   simp[eU,Z,this,T]
  rw[e];refine aq (λ(k:Nat)=>k<=ws.length/\∀(j:Nat) y,j<k->ws[j]? =some y->(!szB y)=false) (λ k=>[(1, .d (aj ws)),(7, .int k)]) (λ k=>[]) (λ k=>ws.length-k) 0 ?_ ?_ ?_
  ·exact⟨uF _,λ j y h=>xA⟩
  ·exact kN aa []
  ·rintro k ⟨I,V⟩;rcases uD k ws.length with R|M
   ·obtain⟨y,Q⟩:=ak R;refine kw kO (ae Q) aa ?_
    repeat' first|exact True.intro|refine Bn.mk ?_ ?_|intro N
    all_goals try
     refine ay ?_;rw[dk Q (by simp[szB];omega)];rfl
    refine⟨k+1,?_,eL [] _ _ (by refine⟨?_,?_⟩<;>(repeat' first|exact fmn|refine fmc ⟨(by first|rfl|(simp(disch:=omega) only[go_sem,simprocAttr,inL];first|done|omega|(congr 1;done))),?_⟩);done),?_⟩
    ·exact⟨xA,b9 V Q (by simp[szB];omega)⟩
    ·omega
   ·refine ac kO aa aa ?_;refine ay ?_;rw[d6 (λ j y J=>V j y xA)];rfl
 ·refine kE Tryz.func63 ?_;intro Y B X O;have S:=bI 1 Y rfl;rw[uC]at S;refine ac kO (ae T) (ae U) ?_
  all_goals
   refine ay ?_;simp[eU,T]
open Sx (Bd bdD cX Net nD)
structure VA (a:Lv)(ws:List Int)(sep:Int):Prop where
 ok:eU a ws sep=true
 v:aH a=true
 n:0<=a.1/\a.1<=64
 len:(ws.length:Int)=a.1
 tt:tot a.2.1<=512
 ls:a.2.1.length<=256
 sep:0<=sep/\sep<=1048576
 ws:∀w,w∈ws->0<=w/\w<=1048576
 vert:∀y,y∈a.2.1->∀x,x∈y->0<=x/\x<tot a.2.1
 nodup:a.2.1.flatten.Nodup
 arcs:∀x,x∈a.2.2.1->(0<=x.1/\x.1<tot a.2.1)/\0<=x.2/\x.2<tot a.2.1
theorem TR {a:Lv}(h:aH a=true):a.2.1.length<=256/\tot a.2.1<=512/\(∀y,y∈a.2.1->∀x,x∈y->0<=x/\x<tot a.2.1)/\a.2.1.flatten.Nodup:=by
 obtain⟨_,_,V⟩:=oX h;obtain⟨Y,X,Z,_⟩:=p7 V;rw[ms]at Z;exact⟨Y,X,λ y T x U=>Z.1 x (zX.2 ⟨y,T,U⟩),Z.2⟩
theorem oH {X:Type}{g:Nat->List X}{x:X}:∀{n:Nat},x∈b8 g n↔∃k,k<n/\x∈g k
 |0=>by simp[b8]
 |n+1=>by
  rw[b8,yP,oH];constructor
  ·rintro(⟨k,Y,Z⟩|h)
   ·exact⟨k,xA,Z⟩
   ·exact⟨n,xA,h⟩
  ·rintro⟨k,Y,Z⟩;rcases qP.1 Y with h|rfl
   ·exact .inl ⟨k,h,Z⟩
   ·exact .inr Z
theorem TP {a:Lv}(h:aH a=true):∀x,x∈a.2.2.1->(0<=x.1/\x.1<tot a.2.1)/\0<=x.2/\x.2<tot a.2.1:=by
 obtain⟨b,O,N⟩:=oX h;have T:a.2.2.1=bK (cd a) (bT a).2 (bT a).2.length:=gL (λ x:Lv=>x.2.2.1) O;have S:tot a.2.1=(aX (cd a) (bT a).2 (bT a).2.length).length:=by
  obtain⟨_,_,_,R⟩:=p7 N;rw[R,kp]
 rw[T,S];intro x Z;obtain⟨e,Q,Z⟩:=oH.1 Z;obtain⟨y,Y⟩:=ak Q;rw[pi,Y]at Z;obtain⟨j,U,rfl⟩:=uR.1 Z;have U:=yD.1 U;have X:=b.chain_at Y (j:=j) xA;have V:=b.chain_at Y (j:=j+1) xA;exact⟨⟨X.1,X.2.1⟩,V.1,V.2.1⟩
theorem VA.of {a:Lv}{ws:List Int}{sep:Int}(h:eU a ws sep=true):VA a ws sep:=by
 have S:=h;simp only[eU,uN,uG,yL,szB]at h;obtain⟨⟨⟨Z,R⟩,Q⟩,O⟩:=h;have Y:=(qm Z).1;simp only[ld,uG]at Y;obtain⟨X,V,U,T⟩:=TR Z;refine⟨S,Z,⟨Y.1,Y.2.1⟩,R,V,X,Q,λ w N=>?_,U,T,TP Z⟩;have:=qH.1 O w N;simpa using this
def apF (ws:List Int)(sep u v:Int):Int:=(eV ws u+eV ws v+1)/2+sep
theorem mQ {a:Lv}{ws:List Int}{sep:Int}(h:VA a ws sep)(v:Int):0<=eV ws v/\eV ws v<=1048576:=by
 rw[eV];split
 ·rename_i Y;rw[at0];cases Z:ws[v.toNat]? with
  |none=>simp
  |some w=>exact h.ws w (uA Z)
 ·omega
theorem pc {a:Lv}{ws:List Int}{sep:Int}(h:VA a ws sep)(u v:Int):0<=apF ws sep u v/\apF ws sep u v<=2097153:=by
 have:=mQ h u;have:=mQ h v;have:=h.sep;rw[apF];omega
def t8 (ws:List Int)(sep:Int)(x:List Int)(j:Nat):Bd:=(at0 x (j:Int),at0 x ((j+1:Nat):Int),apF ws sep (at0 x (j:Int)) (at0 x ((j+1:Nat):Int)),0)
def prN (ws:List Int)(sep:Int)(x:List Int)(k:Nat):List Bd:=(List.range k).map (t8 ws sep x)
theorem PC (ws:List Int)(sep:Int)(x:List Int)(k:Nat):prN ws sep x (k+1)=prN ws sep x k++[t8 ws sep x k]:=by simp[prN,qE]
theorem PB {ws:List Int}{sep:Int}{x:List Int}{j:Nat}{u v:Int}(V:1<=j)(h:x[j-1]? =some u)(X:x[j]? =some v):prN ws sep x j=prN ws sep x (j-1)++[(u,v,apF ws sep u v,0)]:=by
 obtain⟨i,rfl⟩:∃i,j=i+1:=⟨j-1,xA⟩;rw[Av]at h|-;rw[PC,t8];have Z:at0 x (i:Int)=u:=by rw[at0,uK,h];rfl
 have Y:at0 x ((i+1:Nat):Int)=v:=by rw[at0,uK,X];rfl
 rw[Z,Y]
theorem xX (ws:List Int)(sep:Int)(x:List Int)(k:Nat):(prN ws sep x k).length=k:=by simp[prN]
def prL (ws:List Int)(sep:Int)(ls:List (List Int))(i:Nat):List Bd:=match ls[i]? with
 |some x=>prN ws sep x (x.length-1)
 |none=>[]
def cN (ws:List Int)(sep:Int)(ls:List (List Int))(k:Nat):List Bd:=b8 (prL ws sep ls) k
theorem BK {ws:List Int}{sep:Int}{ls:List (List Int)}{k:Nat}{x:List Int}(h:ls[k]? =some x):cN ws sep ls (k+1)=cN ws sep ls k++prN ws sep x (x.length-1):=by
 rw[cN,b8,prL,h];rfl
def gj (ws:List Int)(sep:Int)(ls:List (List Int))(k:Nat)(x:List Int)(j:Nat):List Bd:=cN ws sep ls k++prN ws sep x (j-1)
theorem DB (ws:List Int)(sep:Int)(ls:List (List Int))(k:Nat)(x:List Int):gj ws sep ls k x 1=cN ws sep ls k:=by simp[gj,prN]
theorem DC {ws:List Int}{sep:Int}{ls:List (List Int)}{k:Nat}{x:List Int}{j:Nat}{u v:Int}(h:1<=j)(Z:x[j-1]? =some u)(Y:x[j]? =some v):
  gj ws sep ls k x (j+1)=gj ws sep ls k x j++[(u,v,apF ws sep u v,0)]:=by
 rw[gj,gj,Av,PB h Z Y,qG]
theorem DA {ws:List Int}{sep:Int}{ls:List (List Int)}{k:Nat}{x:List Int}{j:Nat}(h:ls[k]? =some x)(Z:j-1=x.length-1):cN ws sep ls (k+1)=gj ws sep ls k x j:=by
 rw[BK h,gj,Z]
theorem qz (ws:List Int)(sep:Int)(ls:List (List Int)):∀k,k<=ls.length->(cN ws sep ls k).length<=tot (ls.take k)
 |0,_=>by simp[cN,b8]
 |k+1,Z=>by
  obtain⟨x,h⟩:=ak (show k<ls.length by omega);have:=qz ws sep ls k xA;rw[BK h,uH,xX,sC h];omega
abbrev oM (b:Bd):D:= .ag [.int b.1, .int b.2.1, .int b.2.2.1]
theorem O5 (a:Lv)(ws:List Int)(sep:Int)(h:VA a ws sep):ah Tryz.prog 62 [lvD a,aj ws, .int sep] (.sl ((cN ws sep a.2.1 a.2.1.length).map oM)):=by
 obtain⟨n,ls,ar,cs⟩:=a;have F:=h.ls;have s:=h.tt;have Y:=h.vert;dsimp only at F s Y|-;refine kE Tryz.func62 ?_;intro H B X w0;refine ac kO aa aa ?_;refine aC _ (dg 7 901 3 rfl rfl) ?_;refine aq (λ(k:Nat)=>k<=ls.length) (λ k=>[(1, .d (aj ws)),(2, .int sep),(7, .ref 901 3 0 (cN ws sep ls k).length (cN ws sep ls k).length),(14, .d (am ls)),(15, .int ls.length),(16, .int k)]) (λ k=>[(901, .row 3 ((cN ws sep ls k).map oM))]) (λ k=>ls.length-k) 0 ?_ ?_ ?_
 ·exact uF _
 ·exact kN aa []
 ·intro k Q;have K:=qz ws sep ls k Q;have J:=ql ls k;rcases uD k ls.length with O|G
  ·obtain⟨x,U⟩:=ak O;have q:=cV (uA U);have V:=Y x (uA U);refine ac kO (ae U) aa ?_;refine aq (λ(j:Nat)=>1<=j/\j-1<=x.length-1) (λ j=>[(1, .d (aj ws)),(2, .int sep),(7, .ref 901 3 0 (gj ws sep ls k x j).length (gj ws sep ls k x j).length),(9, .d (aj x)),(10, .int j),(14, .d (am ls)),(15, .int ls.length),(16, .int k)]) (λ j=>[(901, .row 3 ((gj ws sep ls k x j).map oM))]) (λ j=>x.length-j) 1 ?_ ?_ ?_
   ·omega
   ·exact kN (ae @DB) []
   ·rintro j ⟨R,M⟩;have N:=xX ws sep x (j-1);rcases uD j x.length with Z|Z
    ·obtain⟨u,T⟩:=ak (show j-1<x.length by omega);obtain⟨v,S⟩:=ak Z;have b:=V _ (uA T);have i2:=V _ (uA S);have L:(j:Int)-1=(j-1:Nat):=xA;have w1:=IX ws u b.1;have w2:=IX ws v i2.1;have b1:=mQ h u;have b2:=mQ h v;have b3:=h.sep;have A:(eV ws u+eV ws v+1).tdiv 2+sep=apF ws sep u v:=by
      rw[apF,kD xA]
     have C:=DC (ws:=ws) (sep:=sep) (ls:=ls) (k:=k) R T S;have I:=pc h u v;have E:(gj ws sep ls k x j).length<=2000:=by rw[gj,uH,N];omega
     refine ac kO (aQ L T S A @aA) (ai w1 w2) ?_;refine⟨j+1,?_,kN (bq C @uH.{0} @yO.{0} @uO.{0,0} @uS.{0,0} @uY.{0,0}) [(901,51)],?_⟩
     ·omega
     ·omega
    ·have M:j-1=x.length-1:=xA;have z:=DA (ws:=ws) (sep:=sep) U M;refine ac kO aa aa ?_;refine⟨k+1,?_,kN (ae z) [],?_⟩
     ·omega
     ·omega
  ·have Q:k=ls.length:=xA;subst Q;refine ac kO aa aa ?_;exact bZ (o:=901) rfl rfl xB (by rw[uE xB])
def ph (a:Lv)(k:Nat)(x:Arc):List Bd:=[(((tot a.2.1+k:Nat):Int),x.1,0,il a.1 x),(((tot a.2.1+k:Nat):Int),x.2,0,il a.1 x)]
def vn (a:Lv)(k:Nat):List Bd:=match a.2.2.1[k]? with
 |some x=>ph a k x
 |none=>[]
def me (a:Lv)(k:Nat):List Bd:=b8 (vn a) k
theorem vp {a:Lv}{k:Nat}{x:Arc}(h:a.2.2.1[k]? =some x):me a (k+1)=me a k++ph a k x:=by
 rw[me,b8,vn,h];rfl
theorem s0 (a:Lv):∀k,k<=a.2.2.1.length->(me a k).length=2*k
 |0,_=>rfl
 |k+1,Z=>by
  obtain⟨x,h⟩:=ak (show k<a.2.2.1.length by omega);rw[vp h,uH,s0 a k xA,ph];simp;omega
def kk (a:Lv)(ws:List Int)(sep:Int):Net:=(((tot a.2.1+a.2.2.1.length:Nat):Int),me a a.2.2.1.length++cN ws sep a.2.1 a.2.1.length)
theorem BQ (a:Lv)(k:Nat)(x:Arc):∀d,d∈[bdD (((tot a.2.1+k:Nat):Int),x.1,0,il a.1 x),bdD (((tot a.2.1+k:Nat):Int),x.2,0,il a.1 x)]->d.cells.length=4:=by
 intro d h;simp only[yI,gV,Cp]at h;rcases h with rfl|rfl<;>rfl
theorem JE (ws:List Int)(sep:Int)(ls:List (List Int))(k:Nat):∀q,q∈cN ws sep ls k->q.2.2.2=0:=by
 intro q h;obtain⟨i,_,h⟩:=oH.1 h;rw[prL]at h;split at h
 ·obtain⟨j,_,rfl⟩:=uR.1 h;rfl
 ·simp at h
theorem Jn (a:Lv)(ws:List Int)(sep:Int)(hw:wide a)(h:VA a ws sep)(hal:a.2.2.1.length<=1000):ah Tryz.prog 57 [lvD a,aj ws, .int sep] (.tup [nD (kk a ws sep), .int 0]):=by
 have hv:=TQ a ws sep hw;rw[h.ok]at hv;have ht:=h.tt;have N:=IR a xA;have O:=O5 a ws sep h;have H:=T0 a;have R:=qz ws sep a.2.1 a.2.1.length (uI _);rw[yE]at R;rw[kk];have Y:=s0 a;have S:= @vp a;have T:=BQ a;revert Y S T;unfold ph;generalize me a=A;intro Y S T;obtain⟨n,V,Z,cs⟩:=a;dsimp only at ht N O H R Y S T hal|-;have K:=JE ws sep V V.length;generalize cN ws sep V V.length=U at O R K|-;refine kE Tryz.func57 ?_;intro hat B X w0;have e0:(tot V:Int)+Z.length=((tot V+Z.length:Nat):Int):=xA;refine ac kO (ae e0) (ai hv N) ?_;refine aC _ (dm 8 1 901 4 rfl rfl rfl) ?_;refine aq (λ(k:Nat)=>k<=Z.length) (λ k=>[(1, .d (aj ws)),(2, .int sep),(3, .ptr 3 0 0 0),(6, .ptr 6 0 0 0),(8, .ptr 8 0 0 0),(29, .d (aw Z)),(30, .int Z.length),(31, .int k)]) (λ k=>[(3, .cells [.int n, .d (am V), .d (aw Z), .d (am cs)]),(6, .cells [.int 0, .nilS]),(8, .cells [.int ((tot V+Z.length:Nat):Int), .ref 901 4 0 (A k).length (A k).length]),(901, .row 4 ((A k).map bdD))]) (λ k=>Z.length-k) 0 ?_ ?_ ?_
 ·exact uF _
 ·have F:A 0=[]:=gQ.1 (Y 0 xA);exact kN (ae F) []
 ·intro k hk;have hkl:=Y k hk;rcases uD k Z.length with Q|hge
  ·obtain⟨x,hx⟩:=ak Q;have I:=S hx;have L:=T k x;have M:=H x;have e1:(tot V:Int)+k=((tot V+k:Nat):Int):=xA;revert I L M;generalize il n x=wg;intro I L M;refine ac kO (av hx e1 @aA) (ai N M) ?_;refine⟨k+1,?_,kN (bV I @uH.{0} @uV.{0} @uU.{0} @uO.{0,0} @uS.{0,0} @uY.{0,0}) [(901,56)],?_⟩
   ·omega
   ·omega
  ·have hk:k=Z.length:=xA;subst hk;obtain⟨C,G⟩:∃C:Nat->List Bd,C=λ j=>A Z.length++U.take j:=⟨_,rfl⟩
   have E:C 0=A Z.length:=by rw[G];simp
   have s:A Z.length++U=C U.length:=by rw[G];simp
   have hCs:∀(j:Nat) q,U[j]? =some q->C (j+1)=C j++[q]:=λ j q J=>by simp only[G];rw[aM J,qG]
   have b:∀j,(C j).length<=3000:=λ j=>by simp only[G];rw[uH,yA];omega
   rw[s];refine ac kO aa (ae O) ?_;refine aq (λ(j:Nat)=>j<=U.length) (λ j=>[(6, .ptr 6 0 0 0),(8, .ptr 8 0 0 0),(62, .d (.sl (U.map oM))),(63, .int U.length),(64, .int j)]) (λ j=>[(6, .cells [.int 0, .nilS]),(8, .cells [.int ((tot V+Z.length:Nat):Int), .ref 901 4 0 (C j).length (C j).length]),(901, .row 4 ((C j).map bdD))]) (λ j=>U.length-j) 0 ?_ ?_ ?_
   ·exact uF _
   ·exact kN (ae E) []
   ·intro j hj;have hlj:=b j;rcases uD j U.length with Q|hge
    ·obtain⟨⟨u,v,p,z⟩,J⟩:=ak Q;have F:=K _ (uA J);dsimp only at F;subst F;have I:=hCs j _ J;refine ac kO (ai J @aA) aa ?_;refine⟨j+1,?_,kN (bq I @uH.{0} @yO.{0} @uO.{0,0} @uS.{0,0} @uY.{0,0}) [(901,78)],?_⟩
     ·omega
     ·omega
    ·have hj:j=U.length:=xA;subst hj;refine ac kO aa aa ?_;refine⟨_,rfl,⟨_,_,_,_,rfl,?_⟩,?_,trivial⟩
     ·simp(disch:=omega) only[go_sem,simprocAttr];rw[uE xB]
     ·rfl
theorem Qw {a:Lv}{ws:List Int}{sep:Int}(h:VA a ws sep)(u v:Int)(U:0<=u)(T:0<=v):ah Tryz.prog 65 [aj ws, .int sep, .int u, .int v] (.int (apF ws sep u v)):=by
 have w1:=Hw ws u U;have S:=Hw ws v T;have b:=mQ h u;have R:=mQ h v;have Q:=h.sep;have V:(eV ws u+eV ws v+1).tdiv 2+sep=apF ws sep u v:=by
  rw[apF,kD xA]
 have Z:=pc h u v;refine kE Tryz.func65 ?_;intro Y B X O;refine ac kO (ae V) (ai w1 S) ?_;exact rfl
theorem x9 (a:Lv)(ws:List Int)(sep:Int)(hw:wide a)(h:VA a ws sep)(hal:a.2.2.1.length<=1000):ah Tryz.prog 231 [lvD a,aj ws, .int sep] (.tup [nD (kk a ws sep), .int 0]):=by
 have hv:=RB a ws sep hw;rw[h.ok]at hv;have ht:=h.tt;have hl:=h.ls;have J:=h.vert;have I:=Hv a xA;have hds:=Qw h;have H:=RC a;have hap:=pc h;rw[kk];have V:=s0 a;have T:= @vp a;have R:=BQ a;revert V T R;unfold ph;generalize me a=A;intro V T R;obtain⟨n,Z,Y,C⟩:=a;dsimp only at ht hl J I hds H V T R hal|-;refine kE Tryz.func231 ?_;intro hat B X w0;have e0:(tot Z:Int)+Y.length=((tot Z+Y.length:Nat):Int):=xA;refine ac kO (ae e0) (ai hv I) ?_;refine aC _ (dm 9 1 901 4 rfl rfl rfl) ?_;refine aq (λ(k:Nat)=>k<=Y.length) (λ k=>[(1, .d (aj ws)),(2, .int sep),(3, .ptr 3 0 0 0),(6, .ptr 6 0 0 0),(8, .int (tot Z)),(9, .ptr 9 0 0 0),(10, .int k)]) (λ k=>[(3, .cells [.int n, .d (am Z), .d (aw Y), .d (am C)]),(6, .cells [.int 0, .nilS]),(9, .cells [.int ((tot Z+Y.length:Nat):Int), .ref 901 4 0 (A k).length (A k).length]),(901, .row 4 ((A k).map bdD))]) (λ k=>Y.length-k) 0 ?_ ?_ ?_
 ·exact uF _
 ·have hz:A 0=[]:=gQ.1 (V 0 xA);exact kN (ae hz) []
 ·intro k L;have hkl:=V k L;rcases uD k Y.length with U|hge
  ·obtain⟨x,S⟩:=ak U;have K:=T S;have Q:=H x;have hT:∀d:D,List.take ((A k).length+1) (List.map bdD (A k)++[d])=List.map bdD (A k)++[d]:=λ d=>uE xB
   have z:(tot Z:Int)+k=((tot Z+k:Nat):Int):=xA;revert K Q;generalize il n x=wg;intro K Q;refine ac kO (aQ S z @aA @uH.{0} @yO.{0}) (ae Q) ?_;refine⟨k+1,?_,kN (bj K hT @uH.{0} @uV.{0} @uU.{0} @uO.{0,0} @uS.{0,0} (aE @uY.{0,0} @qG.{0} @gK.{0} @gB.{0})) [(901,68)],?_⟩
   ·omega
   ·omega
  ·have L:k=Y.length:=xA;subst L;have N:∀k,k<=Z.length->(A Y.length++cN ws sep Z k).length<=3000:=λ k L=>by
    have h1:=qz ws sep Z k L;have h2:=ql Z k;rw[uH];omega
   refine ac kO aa aa ?_;refine aq (λ(i:Nat)=>i<=Z.length) (λ i=>[(1, .d (aj ws)),(2, .int sep),(3, .ptr 3 0 0 0),(6, .ptr 6 0 0 0),(9, .ptr 9 0 0 0),(12, .int i)]) (λ i=>[(3, .cells [.int n, .d (am Z), .d (aw Y), .d (am C)]),(6, .cells [.int 0, .nilS]),(9, .cells [.int ((tot Z+Y.length:Nat):Int), .ref 901 4 0 (A Y.length++cN ws sep Z i).length (A Y.length++cN ws sep Z i).length]),(901, .row 4 ((A Y.length++cN ws sep Z i).map bdD))]) (λ i=>Z.length-i) 0 ?_ ?_ ?_
   ·exact uF _
   ·exact eL [] _ _ (by refine⟨?_,?_⟩<;>(repeat' first|exact fmn|refine fmc ⟨(by first|rfl|(simp(disch:=omega) only[go_sem,simprocAttr,inL,cN,b8,yS];first|done|omega|(congr 1;done))),?_⟩);done)
   ·intro i hi;have hil:=N i hi;rcases uD i Z.length with U|hge
    ·obtain⟨x,S⟩:=ak U;have G:=J x (uA S);have hxl:=cV (uA S);have hil2:=N (i+1) U;obtain⟨E,F⟩:∃E:Nat->List Bd,E=λ j=>A Y.length++gj ws sep Z i x j:=⟨_,rfl⟩
     have b:A Y.length++cN ws sep Z i=E 1:=by rw[F];simp only[DB]
     have hEe:∀j,j-1=x.length-1->A Y.length++cN ws sep Z (i+1)=E j:=λ j O=>by rw[F];simp only[DA S O]
     have hEs:∀(j:Nat) u v,1<=j->x[j-1]? =some u->x[j]? =some v->E (j+1)=E j++[(u,v,apF ws sep u v,0)]:=λ j u v h1 h2 h3=>by simp only[F];rw[DC h1 h2 h3,qG]
     have hEl:∀j,j-1<=x.length-1->(E j).length<=4000:=λ j O=>by
      simp only[F,gj];rw[<-qG,uH,xX];omega
     rw[b];refine ac kO (ae S) aa ?_;refine aq (λ(j:Nat)=>1<=j/\j-1<=x.length-1) (λ j=>[(1, .d (aj ws)),(2, .int sep),(3, .ptr 3 0 0 0),(6, .ptr 6 0 0 0),(9, .ptr 9 0 0 0),(12, .int i),(13, .int j)]) (λ j=>[(3, .cells [.int n, .d (am Z), .d (aw Y), .d (am C)]),(6, .cells [.int 0, .nilS]),(9, .cells [.int ((tot Z+Y.length:Nat):Int), .ref 901 4 0 (E j).length (E j).length]),(901, .row 4 ((E j).map bdD))]) (λ j=>x.length-j) 1 ?_ ?_ ?_
     ·omega
     ·exact kN aa []
     ·rintro j ⟨hj1,O⟩;have hlj:=hEl j O;rcases uD j x.length with M|M
      ·obtain⟨u,s⟩:=ak (show j-1<x.length by omega);obtain⟨v,q⟩:=ak M;have i1:=G _ (uA s);have i2:=G _ (uA q);have z:(j:Int)-1=(j-1:Nat):=xA;have hd:=hds u v i1.1 i2.1;have hp:=hEs j u v hj1 s q;have hq:=hap u v;refine ac kO (aQ S z s q @aA) (ae hd) ?_;refine⟨j+1,?_,kN (bq hp @uH.{0} @yO.{0} @uO.{0,0} @uS.{0,0} @uY.{0,0}) [(901,115)],?_⟩
       ·omega
       ·omega
      ·have O:j-1=x.length-1:=xA;have K:=hEe j O;refine ac kO (ae S) aa ?_;refine⟨i+1,?_,kN (ae K) [],?_⟩
       ·omega
       ·omega
    ·have hi:i=Z.length:=xA;subst hi;refine ac kO aa aa ?_;refine⟨_,rfl,⟨_,_,_,_,rfl,?_⟩,?_,trivial⟩
     ·simp(disch:=omega) only[go_sem,simprocAttr];rw[uE xB]
     ·rfl
end Go.Proofs.YtjjbhjnpeenbkaaGreatDoor.Al
namespace Go.Proofs.YtjjbhjnpeenbkaaGreatDoor.Al
open Go Go.PS Go.Proofs
open Sx (Bd lS lR)
set_option maxRecDepth 100000
attribute [local irreducible] ao wpG ah ax
def inX (n:Int):Bool:=decide (-34359738368<=n/\n<=34359738368)
def rs (a:Lv)(x:List Int):Bool:=decide (x.length=tot a.2.1)&& !x.any λ n=> !inX n
structure Fits (a:Lv)(x:List Int):Prop where
 len:x.length=tot a.2.1
 at':∀v:Int,0<=v->v<tot a.2.1->x[v.toNat]? =some (at0 x v)/\-34359738368<=at0 x v/\at0 x v<=34359738368
theorem Fits.of {a:Lv}{x:List Int}(h:rs a x=true):Fits a x:=by
 simp only[rs,uN,uG,yL]at h;refine⟨h.1,λ v Y X=>?_⟩;have Z:=fP (r:=x) Y xA;have:=qH.1 h.2 _ (uA Z);simp only[inX,yL,Aw,uG,Bool.not_eq_false]at this;exact⟨Z,this⟩
theorem T1 (n:Int)(e:Arc):1<=il n e/\il n e<=8:=by
 rw[il];repeat' split
 all_goals omega
def oi (x:List Int)(q:Bd):Bool:=decide (at0 x q.2.1-at0 x q.1<q.2.2.1)
def vM (a:Lv)(ws:List Int)(sep:Int)(x:List Int):Int:=if eU a ws sep then(if rs a x then(if(cN ws sep a.2.1 a.2.1.length).any (oi x)then 14 else 0)else 3)else 1
theorem JC {a:Lv}{ws:List Int}{sep:Int}(h:VA a ws sep)(k:Nat):∀q,q∈cN ws sep a.2.1 k->(0<=q.1/\q.1<tot a.2.1)/\(0<=q.2.1/\q.2.1<tot a.2.1)/\0<=q.2.2.1/\q.2.2.1<=2097153:=by
 intro q Z;obtain⟨i,_,Z⟩:=oH.1 Z;rw[prL]at Z;split at Z
 ·rename_i x T;obtain⟨j,Y,rfl⟩:=uR.1 Z;have Y:=yD.1 Y;have V:=aK (r:=x) (i:=j) xA;have U:=aK (r:=x) (i:=j+1) xA;have X:=uA T;exact⟨h.vert x X _ (uA V),h.vert x X _ (uA U),pc h _ _⟩
 ·simp at Z
end Go.Proofs.YtjjbhjnpeenbkaaGreatDoor.Al
namespace Go.Proofs.YtjjbhjnpeenbkaaGreatDoor.Al
open Go Go.PS Go.Proofs
open Sx (Bd bdD cX Net nD lS lR cn lowN_le nt tO)
set_option maxRecDepth 100000
attribute [local irreducible] ao wpG ah ax
def fH (r:List Int)(k:Nat):List (Int×Int):=(List.range k).map λ v:Nat=>((v:Int),at0 r v)
theorem NO (r:List Int)(k:Nat):(fH r k).length=k:=by simp[fH]
theorem NQ (r:List Int):fH r 0=[]:=rfl
theorem NN {r:List Int}{k j:Nat}(h:j<k):(fH r k).getD j (0,0)=((j:Int),at0 r j):=by
 rw[jI,fH,uJ,yZ h];rfl
theorem Gx {x y:Int}:∀{l:List (Int×Int)},(∀p,p∈l->p.1≠x)->iB l x y=l++[(x,y)]
 |[],_=>rfl
 |(a,b)::l,h=>by
  rw[iB,if_neg (show¬a=x from h (a,b) xB),Gx (l:=l) (λ p Z=>h p (uP _ Z))];rfl
theorem NP (r:List Int)(k:Nat):iB (fH r k) (k:Int) (at0 r k)=fH r (k+1):=by
 rw[Gx]
 ·simp[fH,qE]
 ·intro p h;obtain⟨v,Z,rfl⟩:=uR.1 h;have:=yD.1 Z;dsimp only;omega
theorem Er {x y:Int}:∀{l m:List (Int×Int)},(∀p,p∈l->p.1≠x)->ct (l++(x,y)::m) x=y
 |[],_,_=>by simp[ct]
 |(a,b)::l,m,h=>by
  rw[gK,ct,if_neg (show¬a=x from h (a,b) xB),Er (l:=l) (λ p Z=>h p (uP _ Z))]
theorem FB {r:List Int}:∀{k v:Nat},v<k->ct (fH r k) (v:Int)=at0 r v
 |0,v,h=>xA
 |k+1,v,h=>by
  have Y:∀(l m:List (Int×Int)),(∃p,p∈l/\p.1=(v:Int))->ct (l++m) (v:Int)=ct l (v:Int):=by
   intro l m
   induction l with
   |nil=>rintro⟨p,Z,_⟩;simp at Z
   |cons q l T=>
    rintro⟨p,Z,V⟩;obtain⟨a,b⟩:=q;rw[gK,ct,ct];by_cases c:a=(v:Int)
    ·rw[if_pos c,if_pos c]
    ·rw[if_neg c,if_neg c];rcases yI.1 Z with rfl|Z
     ·exact absurd V c
     ·exact T ⟨p,Z,V⟩
  have e:fH r (k+1)=fH r k++[((k:Int),at0 r k)]:=by simp[fH,qE]
  rcases qP.1 h with X|rfl
  ·rw[e,Y (fH r k) [((k:Int),at0 r k)] ⟨((v:Int),at0 r v),uR.2 ⟨v,yD.2 X,rfl⟩,rfl⟩,FB X]
  ·rw[e,Er];intro p Z;obtain⟨u,U,rfl⟩:=uR.1 Z;have:=yD.1 U;dsimp only;omega
def eQ (r:List Int)(T:Nat):Int:=cn (λ v:Nat=>at0 r v) T
def fW (r:List Int)(T:Nat):List Int:=(List.range T).map λ v:Nat=>at0 r v-eQ r T
def o3 (r:List Int)(sn:List Nat)(m:Int):Prop:=(sn=[]->m=0)/\(sn≠[]->(∃j,j∈sn/\m=at0 r j)/\∀j,j∈sn->m<=at0 r (j:Nat))
theorem o3.step {r:List Int}{sn:List Nat}{m:Int}(h:o3 r sn m)(j:Nat):o3 r (sn++[j]) (if sn=[]\/at0 r j<m then at0 r j else m):=by
 refine⟨λ h=>by simp at h,λ _=>?_⟩;by_cases c:sn=[]
 ·subst c;rw[if_pos (.inl rfl)];exact⟨⟨j,xB,rfl⟩,λ i X=>by simp at X;subst X;omega⟩
 ·obtain⟨⟨i,X,e⟩,V⟩:=h.2 c;split
  ·rename_i Y;refine⟨⟨j,xB,rfl⟩,λ u Z=>?_⟩;rw[yP,uX]at Z;rcases Z with Z|rfl
   ·have:=V u Z;rcases Y with Y|Y
    ·exact absurd Y c
    ·omega
   ·omega
  ·rename_i Y;refine⟨⟨i,by simp[X],e⟩,λ u Z=>?_⟩;rw[yP,uX]at Z;rcases Z with Z|rfl
   ·exact V u Z
   ·omega
theorem o3.all {r:List Int}{sn:List Nat}{m:Int}{T:Nat}(h:o3 r sn m)(V:∀j,j<T->j∈sn)(U:∀j,j∈sn->j<T):m=eQ r T:=by
 rcases qO T with rfl|X
 ·have:sn=[]:=List.eq_nil_iff_forall_not_mem.2 λ j Z=>by have:=U j Z;omega
  rw[h.1 this];rfl
 ·have Y:sn≠[]:=λ e=>by have:=V 0 X;rw[e]at this;simp at this
  obtain⟨⟨j,Z,e⟩,S⟩:=h.2 Y;have Q:m<=eQ r T:=nt X λ v R=>S v (V v R)
  have O:eQ r T<=at0 r j:=lowN_le (h:=λ v:Nat=>at0 r v) (U j Z);omega
theorem qw (a:Lv)(ws:List Int)(sep:Int)(r:List Int)(hw:wide a)(h:VA a ws sep)(hal:a.2.2.1.length<=1000)
  (hB:ax Tryz.prog 58 [.d (nD (kk a ws sep))] [(2000, .dead)] (.tup [.ref 2000 1 0 r.length r.length, .int 0]) [(2000, .row 1 (r.map D.int))])
  (hrl:tot a.2.1<=r.length)(E:∀v:Nat,v<r.length->0<=at0 r v/\at0 r v<=34359738368):
  ah Tryz.prog 17 [lvD a,aj ws, .int sep] (.tup [aj (fW r (tot a.2.1)), .int 0]):=by
 have hn:=Jn a ws sep hw h hal;have C:=IR a (by have:=h.tt;omega);have htt:=h.tt;obtain⟨N,hN⟩:∃N,N=kk a ws sep:=⟨_,rfl⟩;rw[<-hN]at hn hB;obtain⟨N1,N2⟩:=N;obtain⟨n,ls,ar,cs⟩:=a;dsimp only at C htt hrl|-;generalize tot ls=T at C htt hrl|-;have hml:(r.map D.int).length=r.length:=uC _;refine kE Tryz.func17 ?_;intro hat B X w0;refine ac kO aa (av hn C (dM [(2000,900)] hB)) ?_;refine aq (λ(k:Nat)=>k<=T) (λ k=>[(3, .ptr 3 0 0 0),(10, .ref 900 1 0 r.length r.length),(11, .mp 37),(39, .int T),(40, .int k)]) (λ k=>[(3, .cells [.int n, .d (am ls), .d (aw ar), .d (am cs)]),(900, .row 1 (r.map D.int)),(37, .imap (fH r k))]) (λ k=>T-k) 0 ?_ ?_ ?_
 ·exact uF _
 ·exact kN (ae @NQ) []
 ·intro k hk;rcases uD k T with R|hge
  ·have J:=aK (r:=r) (i:=k) xA;have hp:=NP r k;revert J hp;generalize at0 r (k:Int)=rk;intro J hp;refine ac kO (av J hp hml) aa ?_;refine⟨k+1,?_,kN (ae hp) [],?_⟩
   ·omega
   ·omega
  ·have hk:k=T:=xA;subst hk;have Z:=NO r k;refine ac kO (ae Z) aa ?_;refine aq (λ(q:List Nat×Int)=>o3 r q.1 q.2/\q.1.Nodup/\∀j,j∈q.1->j<k) (λ q=>[(11, .mp 37),(13, .int q.2),(14, .bool (!q.1.isEmpty)),(51, .ptr 51 1 0 0)]) (λ q=>[(37, .imap (fH r k)),(51, .iter 37 k q.1)]) (λ q=>k-q.1.length) ([],(0:Int)) ?_ ?_ ?_
   ·exact⟨⟨λ _=>rfl,λ h=>absurd rfl h⟩,zL,xB⟩
   ·exact kN (ai Z @gE.{0}) []
   ·rintro⟨sn,m⟩ ⟨Q,G,R⟩;dsimp only at Q G R|-;have hln:=tO k sn G R;refine bt rfl ?_;refine PK (i:=51) (o:=51) (m:=37) (k:=k) (sn:=sn) (l:=fH r k) rfl rfl rfl Z (Bb rfl) (Bb rfl) (λ A=>?_) (λ j hj hjn=>?_)
    ·have hm:=Q.all A R;subst hm;obtain⟨F,hF⟩:∃F:Nat->List Int,F=λ u=>cb (λ v:Nat=>at0 r v-eQ r k) k u:=⟨_,rfl⟩
     have b:∀u:Nat,(F u).length=k:=λ u=>by rw[hF];exact fV _ k u
     have hf0:(F 0).map D.int=List.replicate k (D.int 0):=by rw[hF];exact oy _ k
     have hfe:F k=fW r k:=by rw[hF];exact ov _ k
     have hfs:∀u:Nat,u<k->((F u).map D.int).set u (D.int (at0 r u-eQ r k))=(F (u+1)).map D.int:=λ u hu=>by simp only[hF];rw[<-ox hu,yW]
     have hlow:k=0\/(0<=eQ r k/\eQ r k<=34359738368):=by
      rcases qO k with h0|h0
      ·exact .inl h0
      ·refine .inr ⟨nt h0 λ v hv=>(E v xA).1,?_⟩;have:=lowN_le (h:=λ v:Nat=>at0 r v) h0;have h2:=(E 0 xA).2;exact zD this h2
     refine ac kO (ae Z) aa ?_;refine aq (λ(u:Nat)=>u<=k) (λ u=>[(11, .mp 37),(13, .int (eQ r k)),(17, .ref 66 1 0 k k),(68, .int k),(69, .int u)]) (λ u=>[(37, .imap (fH r k)),(66, .row 1 ((F u).map D.int))]) (λ u=>k-u) 0 ?_ ?_ ?_
     ·exact uF _
     ·exact kN (ae hf0) []
     ·intro u hu;have K:=b u;rcases uD u k with L|hge2
      ·have J:=FB (r:=r) L;have M:=hfs u L;obtain⟨od,hod⟩:=ak (show u<(F u).length by omega);have z:=E u xA;have s:=hlow.resolve_left xA;have hfl2:=b (u+1);revert J M z s;generalize eQ r k=lw;generalize at0 r (u:Int)=ru;intro J M z s;refine ac kO (aQ Z J M K hod) aa ?_;refine⟨u+1,?_,kN (ae M) [],?_⟩
       ·omega
       ·omega
      ·have hu:u=k:=xA;subst hu;refine ac kO aa aa ?_;exact⟨_,rfl,bZ (o:=66) rfl rfl (by simp[K]) (by rw[uE (by simp[K]),hfe]),ap rfl,trivial⟩
    ·have Y:=Q.step j;have I:(sn++[j]).getLast?=some j:=xB;have S:=NN (r:=r) hj;have H:(sn++[j]).isEmpty=false:=xB;have U:(sn++[j]).Nodup:=by
      rw[zC];exact⟨G,xB,by intro x hx y hy;rw[uX]at hy;subst hy;rintro rfl;exact hjn hx⟩
     have V:∀i,i∈sn++[j]->i<k:=λ i hi=>by
      rw[yP,uX]at hi;rcases hi with hi|rfl
      ·exact R i hi
      ·exact hj
     have hln':=tO k _ U V;rw[uH,yO]at hln';revert Y S;generalize at0 r (j:Int)=rj;intro Y S;rcases O:sn.isEmpty with _|_
     ·have hne:sn≠[]:=by rintro rfl;cases O
      by_cases c:rj<m
      ·rw[if_pos (.inr c)]at Y;refine ac kO (bq Z I S O c @Cf) aa ?_;refine⟨(sn++[j],rj),?_,kN (ae H) [],?_⟩
       ·exact⟨Y,U,V⟩
       ·dsimp only;rw[uH,yO];omega
      ·rw[if_neg (by rintro(h|h);exact hne h;exact c h)]at Y;refine ac kO (bq Z I S O c @Cf) aa ?_;refine⟨(sn++[j],m),?_,kN (ae H) [],?_⟩
       ·exact⟨Y,U,V⟩
       ·dsimp only;rw[uH,yO];omega
     ·have he:sn=[]:=Ap.1 O;rw[if_pos (.inl he)]at Y;refine ac kO (aQ Z I S O @Dl) aa ?_;refine⟨(sn++[j],rj),?_,kN (ae H) [],?_⟩
      ·exact⟨Y,U,V⟩
      ·dsimp only;rw[uH,yO];omega
end Go.Proofs.YtjjbhjnpeenbkaaGreatDoor.Al
namespace Go.Proofs.YtjjbhjnpeenbkaaGreatDoor.Al
open Go Go.PS Go.Proofs
open Sx (Bd bdD cX Net nD lS lR cn lowN_le nt)
set_option maxRecDepth 100000
attribute [local irreducible] ao wpG ah ax
def lk (r:List Int)(u:Nat):Int:=if u=0 then at0 r 0 else eQ r u
theorem NK (r:List Int)(u:Nat):(if at0 r u<lk r u then at0 r (u:Nat)else lk r u)=lk r (u+1):=by
 have e:eQ r (u+1)=if u=0\/at0 r u<eQ r u then at0 r u else eQ r u:=rfl
 rw[lk,lk,if_neg (Nat.succ_ne_zero u),e];rcases qO u with rfl|Z
 ·simp
 ·have h:¬u=0:=xA;simp only[h,false_or,jH]
theorem Jc (r:List Int)(n:Nat)(hn:n<=r.length)(hr:r.length<=1000000)(V:∀v:Nat,v<r.length->0<=at0 r v/\at0 r v<=34359738368):ah Tryz.prog 233 [aj r, .int n] (aj (fW r n)):=by
 have Q:∀u,u<=n->0<n->0<=lk r u/\lk r u<=34359738368:=λ u A N=>by
  rw[lk];split
  ·exact V 0 xA
  ·refine⟨nt xA λ v hv=>(V v xA).1,?_⟩;exact zD (lowN_le (h:=λ v:Nat=>at0 r v) (k:=u) (v:=0) xA) (V 0 xA).2
 obtain⟨F,M⟩:∃F:Nat->List Int,F=λ k=>(List.range k).map λ v:Nat=>at0 r v-eQ r n:=⟨_,rfl⟩
 have H:∀k,(F k).length=k:=λ k=>by rw[M];simp
 have J:F 0=[]:=by rw[M];rfl
 have G:∀k,F (k+1)=F k++[at0 r k-eQ r n]:=λ k=>by rw[M];simp[qE]
 have I:F n=fW r n:=by rw[M];rfl
 have T:lk r 0=at0 r 0:=rfl;have Z:0<n->lk r n=eQ r n:=λ h=>if_neg xA
 have R:=NK r;revert Q T R Z;generalize lk r=S;intro Q T Z R;refine kE Tryz.func233 ?_;intro hat B X w0;refine ac kO aa aa ?_;refine aC _ (dg 5 901 1 rfl rfl) ?_;refine aq (λ(k:Nat)=>k<=n) (λ k=>[(0, .d (aj r)),(1, .int n),(5, .ref 901 1 0 k k),(6, .int k)]) (λ k=>[(901, .row 1 ((F k).map D.int))]) (λ k=>n-k) 0 ?_ ?_ ?_
 ·exact uF _
 ·exact kN (ae J) []
 ·intro k q;have Y:=H k;rcases uD k n with hlt|hge
  ·have N:0<n:=xA;have s:=aK (r:=r) (i:=0) xA;have L:=aK (r:=r) (i:=k) xA;have E:=G k;have b:=V k xA;have bn:=Q n (uI _) N;rw[Z N]at bn;have O:S 0=at0 r ((0:Nat):Int):=T;revert E b L;generalize at0 r (k:Int)=rk;intro L E b;rw[<-O]at s;refine ac kO (ae s) aa ?_;refine aq (λ(u:Nat)=>u<=n) (λ u=>[(0, .d (aj r)),(1, .int n),(5, .ref 901 1 0 k k),(6, .int k),(7, .int (S u)),(8, .int u)]) (λ u=>[(901, .row 1 ((F k).map D.int))]) (λ u=>n-u) 0 ?_ ?_ ?_
   ·exact uF _
   ·exact kN aa []
   ·intro u A;rcases uD u n with z|z
    ·have K:=aK (r:=r) (i:=u) xA;have U:=R u;revert K U;generalize at0 r (u:Int)=ru;intro K U;refine ac kO (ai K U) aa ?_;refine⟨u+1,?_,kN (ae U) [],?_⟩
     ·omega
     ·omega
    ·have A:u=n:=xA;subst A;rw[Z N];have C:(List.map D.int (F k)).take k=List.map D.int (F k):=uE (by simp[Y]);refine ac kO (av L Y C) aa ?_;refine⟨k+1,?_,kN (aE E @uO.{0,0} @uS.{0,0} @uY.{0,0}) [(901,48)],?_⟩
     ·omega
     ·omega
  ·have q:k=n:=xA;subst q;refine ac kO aa aa ?_;exact bZ (o:=901) rfl rfl (by simp[Y]) (by rw[uE (by simp[Y]),I])
end Go.Proofs.YtjjbhjnpeenbkaaGreatDoor.Al
namespace Go.Proofs.YtjjbhjnpeenbkaaGreatDoor.Al
open Go Go.PS Go.Proofs
open Sx (Bd bdD cX Net nD nOk BdsOk bdsOk_of PotB zeros Best SolveOk solve_best best_bd best_pot pn FF w9 midF mir_ok xW gl m7 costB costAt aT gap D7)
set_option maxRecDepth 100000
attribute [local irreducible] ao wpG ah ax
theorem BY (r:List Int)(v:Int):Sx.at0 r v=at0 r v:=rfl
variable {a:Lv}{ws:List Int}{sep:Int}
abbrev e9 (a:Lv):Nat:=tot a.2.1+a.2.2.1.length
abbrev dQ (a:Lv)(ws:List Int)(sep:Int):List Bd:=me a a.2.2.1.length++cN ws sep a.2.1 a.2.1.length
theorem w8 {k:Nat}{b:Bd}(h:b∈me a k):∃i x,i<k/\a.2.2.1[i]? =some x/\(b=(((tot a.2.1+i:Nat):Int),x.1,0,il a.1 x)\/b=(((tot a.2.1+i:Nat):Int),x.2,0,il a.1 x)):=by
 obtain⟨i,Y,Z⟩:=oH.1 h;rw[vn]at Z;split at Z
 ·rename_i x X;rw[ph]at Z;simp only[yI,gV,Cp]at Z;exact⟨i,x,Y,X,Z⟩
 ·simp at Z
theorem pK {l:List Int}(U:l.Nodup){k:Nat}{v:Int}(h:l[k]? =some v):l.idxOf v=k:=by
 obtain⟨Y,X⟩:=uB.1 h;have Z:=List.idxOf_lt_length_iff.2 (uA h);have V:l[l.idxOf v]=v:=Ab Z;rcases zP (l.idxOf v) k with c|c|c
 ·exact absurd (V.trans X.symm) (jB.1 U _ _ Z Y c)
 ·exact c
 ·exact absurd (X.trans V.symm) (jB.1 U _ _ Y Z c)
theorem lN {ls:List (List Int)}{i:Nat}{x:List Int}(h:ls[i]? =some x){j:Nat}{v:Int}(Y:x[j]? =some v):ls.flatten[(ls.take i).flatten.length+j]? =some v:=by
 obtain⟨V,U⟩:=uB.1 h;have e:ls=ls.take i++x::ls.drop (i+1):=by rw[<-U,<-qV V,gR]
 have Z:=(uB.1 Y).1;have X:ls.flatten=(ls.take i).flatten++(x++(ls.drop (i+1)).flatten):=by
  conv=>lhs;rw[e]
  simp
 rw[X,qL xA,Ce,qZ Z,Y]
theorem w7 {k:Nat}{b:Bd}(h:b∈cN ws sep a.2.1 k):∃(i:Nat) (x:List Int) (j:Nat) (u v:Int),a.2.1[i]? =some x/\x[j]? =some u/\x[j+1]? =some v/\b=(u,v,apF ws sep u v,0):=by
 obtain⟨i,V,Z⟩:=oH.1 h;rw[prL]at Z;split at Z
 ·rename_i x X;obtain⟨j,Y,rfl⟩:=uR.1 Z;have Y:=yD.1 Y;exact⟨i,x,j,_,_,X,aK xA,aK xA,rfl⟩
 ·simp at Z
def oQ (a:Lv)(v:Nat):Int:=if v<tot a.2.1 then 4194304*(a.2.1.flatten.idxOf (v:Int):Int)else 0
theorem nB (h:VA a ws sep)(S:a.2.2.1.length<=700):nOk ((e9 a:Int),dQ a ws sep)=true:=by
 have K:=h.tt;have T:=qz ws sep a.2.1 a.2.1.length (uI _);rw[yE]at T;have J:=s0 a a.2.2.1.length (uI _);simp only[nOk,uN,uG,yL,qH,uH];have hN:e9 a=tot a.2.1+a.2.2.1.length:=rfl;refine⟨⟨xA,xA,xA⟩,λ b Z=>?_⟩;rw[yP]at Z;simp only[Sx.bdIn,yL,qJ,Ba];rcases Z with Z|Z
 ·obtain⟨i,x,I,Y,Z⟩:=w8 Z;have X:=h.arcs x (uA Y);have H:=T1 a.1 x;rcases Z with rfl|rfl<;>(dsimp only;omega)
 ·obtain⟨i,x,j,u,v,Y,V,U,rfl⟩:=w7 Z;have X:=uA Y;have Q:=h.vert x X _ (uA V);have O:=h.vert x X _ (uA U);have N:=pc h u v;have R:u≠v:=by
   rintro rfl;have M:=pK h.nodup (lN Y V);have L:=pK h.nodup (lN Y U);omega
  dsimp only;omega
theorem Oc (h:VA a ws sep):PotB (dQ a ws sep) (zeros (dQ a ws sep)) (oQ a):=by
 refine Sx.potB_nil.1 λ k b Q=>⟨?_,λ R=>by simp[Sx.at0]at R⟩
 have Z:=uA Q;rw[yP]at Z;rcases Z with Z|Z
 ·obtain⟨i,x,L,Y,Z⟩:=w8 Z;rcases Z with rfl|rfl
  ·dsimp only;rw[oQ,if_neg xA,oQ];split<;>omega
  ·dsimp only;rw[oQ,if_neg xA,oQ];split<;>omega
 ·obtain⟨i,x,j,u,v,Y,V,U,rfl⟩:=w7 Z;have X:=uA Y;have O:=h.vert x X _ (uA V);have N:=h.vert x X _ (uA U);have M:=pc h u v;have T:=pK h.nodup (lN Y V);have S:=pK h.nodup (lN Y U);dsimp only;rw[oQ,if_pos xA,oQ,if_pos xA,show((u.toNat:Nat):Int)=u by omega,show((v.toNat:Nat):Int)=v by omega,T,S];omega
structure Bal (a:Lv)(ws:List Int)(sep:Int)(M:List Int):Prop where
 len:M.length=e9 a
 bd:∀v:Nat,v<M.length->0<=at0 M v/\at0 M v<=34359738368
 pot:PotB (dQ a ws sep) (zeros (dQ a ws sep)) (λ v=>at0 M v)
 calls:ax Tryz.prog 58 [.d (nD (kk a ws sep))] [(2000, .dead)] (.tup [.ref 2000 1 0 M.length M.length, .int 0]) [(2000, .row 1 (M.map D.int))]
 least:∀x:List Int,PotB (dQ a ws sep) (zeros (dQ a ws sep)) (λ v=>at0 x v)->costB (dQ a ws sep) M<=costB (dQ a ws sep) x
theorem J2 (h:VA a ws sep)(K:a.2.2.1.length<=700):∃A f b O,Best (e9 a) (dQ a ws sep) A f/\Best (e9 a) ((dQ a ws sep).map Sx.mirB) b O/\Bal a ws sep (midF A b):=by
 have S:=nB h K;obtain⟨X,s,z⟩:=bdsOk_of S;obtain⟨A,f,B,Y⟩:=solve_best S ⟨_,Oc h⟩;have R:=mir_ok S;obtain⟨J,_,_⟩:=bdsOk_of R;obtain⟨b,O,L,V⟩:=solve_best R ⟨_,xW X (Sx.potB_zeros (best_pot X Y))⟩;have hN:e9 a<=2048:=s;have I:Sx.fromTo A 34359738368:=λ v=>by have:=best_bd X Y v;omega
 have H:Sx.fromTo b 34359738368:=λ v=>by have:=best_bd J V v;omega
 have Z:=FF S Y V;have Q:(midF A b).length=e9 a:=by simp[midF,Y.rl]
 have G:=D7 Z.1;have U:Sx.rkOk ((e9 a:Int),dQ a ws sep) (midF A b)=true:=by
  have:=Z.1;simp only[gl,uN]at this;exact this.1
 obtain⟨_,_,U⟩:=Sx.rkOk_in U;refine⟨A,f,b,O,Y,V,Q,λ v hv=>?_,G.2.2,?_,λ x q=>?_⟩
 ·have N:=U v xA (by dsimp only;omega);rw[BY]at N;refine⟨?_,N.2.2⟩;have M:=w9 (a:=A) (b:=b) (v:=v) (by rw[Y.rl];omega);rw[BY]at M;have h3:=Sx.lowN_le (h:=Sx.halfAt A b (Sx.topN A b A.length)) (k:=A.length) (v:=v) (by rw[Y.rl];omega);omega
 ·have C:=Sx.Balanced_ok ((e9 a:Int),dQ a ws sep) A b f O B L (by dsimp only;omega) (by rw[Y.rl];omega) (λ v=>by have:=I v;omega) (λ v=>by have:=H v;omega);rw[show A.length=(midF A b).length by rw[Q,Y.rl]]at C;exact C
 ·have N:=(pn X Y q).1;have M:=Z.2;have T:=Sx.best_feas S Y;have F:Sx.rkOk ((e9 a:Int),dQ a ws sep) A=true:=by
   simp only[gl,uN]at T;exact T.1
  have E:Sx.rkOk ((e9 a:Int),dQ a ws sep) (midF A b)=true:=by
   have:=Z.1;simp only[gl,uN]at this;exact this.1
  rw[Sx.cost_is F,Sx.cost_is E]at M;omega
end Go.Proofs.YtjjbhjnpeenbkaaGreatDoor.Al
namespace Go.Proofs.YtjjbhjnpeenbkaaGreatDoor.Al
open Go Go.PS Go.Proofs
open Sx (Bd nOk BdsOk bdsOk_of PotB zeros Best best_bd best_pot costB costAt aT cn lowN_le nt midF)
set_option maxRecDepth 100000
variable {a:Lv}{ws:List Int}{sep:Int}
theorem Pz {l:List Bd}{r:List Int}(h:PotB l (zeros l) (λ v=>at0 r v)){b:Bd}(Z:b∈l)(X:0<=b.1)(V:0<=b.2.1):at0 r b.1+b.2.2.1<=at0 r b.2.1:=by
 obtain⟨k,Y⟩:=qC.1 Z;have:=(h k b Y).1;dsimp only at this
 rwa [show((b.1.toNat:Nat):Int)=b.1 by omega,show((b.2.1.toNat:Nat):Int)=b.2.1 by omega]at this
theorem Ea (r:List Int)(T:Nat):(fW r T).length=T:=by simp[fW]
theorem wm {r:List Int}{T:Nat}{v:Int}(Z:0<=v)(Y:v<T):at0 (fW r T) v=at0 r v-eQ r T:=by
 obtain⟨n,rfl⟩:∃n:Nat,v=n:=⟨v.toNat,xA⟩;have h:n<T:=xA;rw[at0,fW,uK,uJ,yZ h];rfl
theorem Fv (h:VA a ws sep){M:List Int}(Z:Bal a ws sep M)(X:0<tot a.2.1):0<=eQ M (tot a.2.1)/\∀v:Nat,v<tot a.2.1->eQ M (tot a.2.1)<=at0 M v:=by
 have V:M.length=tot a.2.1+a.2.2.1.length:=Z.len;exact⟨nt X λ v Y=>(Z.bd v xA).1,λ v Y=>lowN_le (h:=λ v:Nat=>at0 M v) Y⟩
theorem L0 (h:VA a ws sep){M:List Int}(Z:Bal a ws sep M):rs a (fW M (tot a.2.1))=true:=by
 have S:M.length=tot a.2.1+a.2.2.1.length:=Z.len;simp only[rs,uN,uG,yL,qH,Ea,Ds];intro x V;obtain⟨v,Y,rfl⟩:=uR.1 V;have Y:=yD.1 Y;have X:=Fv h Z xA;have U:=X.2 v Y;have T:=Z.bd v xA;simp only[inX,yL,qJ,Ba];omega
theorem LZ (h:VA a ws sep){M:List Int}(Y:Bal a ws sep M):vM a ws sep (fW M (tot a.2.1))=0:=by
 rw[vM,if_pos h.ok,if_pos (L0 h Y),if_neg];rw[Bp,qH];intro q X;have Z:=JC h _ q X;have:=Pz Y.pot (Az _ X) Z.1.1 Z.2.1.1;simp only[oi,uG,Int.not_lt];rw[wm Z.1.1 Z.1.2,wm Z.2.1.1 Z.2.1.2];omega
end Go.Proofs.YtjjbhjnpeenbkaaGreatDoor.Al
namespace Go.Proofs.YtjjbhjnpeenbkaaGreatDoor.Al
open Go Go.PS Go.Proofs
open Sx (Bd bdD cX Net nD)
set_option maxRecDepth 100000
attribute [local irreducible] ao wpG ah ax
abbrev lvA :Lv:=(3,[[0],[1,2]],[(0,1),(0,2)],[[0,1],[0,2]])
theorem T3 :wide lvA:=by
 intro y h;simp only[lvA,yI,gV,Cp]at h;rcases h with rfl|rfl<;>decide
theorem vA :aH lvA=true:=by
 simp only[aH,fd,lvA,uS,uY,<-EM]
 decide+kernel
end Go.Proofs.YtjjbhjnpeenbkaaGreatDoor.Al
namespace Go.Proofs.YtjjbhjnpeenbkaaGreatDoor.Al
open Go Go.PS Go.Proofs
open Sx (Bd bdD cX Net nD Best BdsOk nOk PotB zeros costB midF gl gap)
set_option maxRecDepth 100000
attribute [local irreducible] ao wpG ah ax
section
variable {a:Lv}{ws:List Int}{sep:Int}
def iy (a:Lv):List Int:=(List.range (e9 a)).map λ v:Nat=>if v<tot a.2.1 then(a.2.1.flatten.idxOf (v:Int):Int)else -1
theorem xI {v:Int}(h:0<=v)(Z:v<tot a.2.1):Sx.at0 (iy a) v=(a.2.1.flatten.idxOf v:Int):=by
 have e:e9 a=tot a.2.1+a.2.2.1.length:=rfl;rw[Sx.at0,iy,uJ,yZ xA,qB,yN,if_pos xA,show((v.toNat:Nat):Int)=v by omega]
theorem OI {i:Nat}(h:i<a.2.2.1.length):Sx.at0 (iy a) ((tot a.2.1+i:Nat):Int)=-1:=by
 have e:e9 a=tot a.2.1+a.2.2.1.length:=rfl;rw[Sx.at0,iy,uK,uJ,yZ xA,qB,yN,if_neg xA]
theorem F3 (h:VA a ws sep){v:Int}(Z:0<=v)(Y:v<tot a.2.1):0<=Sx.at0 (iy a) v/\Sx.at0 (iy a) v<=512:=by
 rw[xI Z Y];have X:=List.idxOf_le_length (a:=v) (l:=a.2.1.flatten);have V:=sB a.2.1;have:=h.tt;omega
theorem F6 (h:VA a ws sep):∀b,b∈dQ a ws sep->1<=gap (iy a) b/\gap (iy a) b<=513:=by
 intro b Z;rcases yP.1 Z with Z|Z
 ·obtain⟨i,x,O,X,Z⟩:=w8 Z;have Y:=h.arcs x (uA X);have N:=OI (a:=a) O;have M:=F3 h Y.1.1 Y.1.2;have L:=F3 h Y.2.1 Y.2.2;rcases Z with rfl|rfl<;>(rw[gap];dsimp only;rw[N];omega)
 ·obtain⟨i,x,j,u,v,X,T,S,rfl⟩:=w7 Z;have Y:=uA X;have V:=h.vert x Y _ (uA T);have U:=h.vert x Y _ (uA S);have R:=pK h.nodup (lN X T);have Q:=pK h.nodup (lN X S);rw[gap];dsimp only;rw[xI V.1 V.2,xI U.1 U.2,R,Q];omega
theorem OS (h:VA a ws sep)(Y:a.2.2.1.length<=700):costB (dQ a ws sep) (iy a)<=1099511627776:=by
 obtain⟨X,Q,U⟩:=Sx.bdsOk_of (nB h Y);have:=(Sx.sumI_le (f:=Sx.costAt (iy a) (dQ a ws sep)) (c:=8000*513) (m:=(dQ a ws sep).length) (λ k V=>by
  obtain⟨b,Z⟩:=ak V;have c:=X k b Z;have g:=F6 h b (uA Z);rw[Sx.costAt_some Z];rw[gap]at g;have T:0<=b.2.2.2*(Sx.at0 (iy a) b.2.1-Sx.at0 (iy a) b.1):=Du xA xA;have S:b.2.2.2*(Sx.at0 (iy a) b.2.1-Sx.at0 (iy a) b.1)<=8000*513:=Int.mul_le_mul xA xA xA xA;omega) (dQ a ws sep).length (uI _)).2
 have R:(8000*513:Int)*((dQ a ws sep).length:Int)<=8000*513*4096:=jU xA xA;rw[costB];omega
theorem Ql (I:wide a)(h:VA a ws sep)(Z:a.2.2.1.length<=700){A f b Q:List Int}(T:Best (e9 a) (dQ a ws sep) A f)(S:Best (e9 a) ((dQ a ws sep).map Sx.mirB) b Q)(R:Bal a ws sep (midF A b)):
  ah Tryz.prog 195 [lvD a,aj ws, .int sep] (.tup [aj (fW (midF A b) (tot a.2.1)), .int 0]):=by
 have U:=nB h Z;obtain⟨Y,hn,K⟩:=Sx.bdsOk_of U;obtain⟨V,_,_⟩:=Sx.bdsOk_of (Sx.mir_ok U);have s:=x9 a ws sep I h xA;have H:ah Tryz.prog 232 [nD (kk a ws sep)] (.tup [aj (midF A b), .int 0]):=Sx.rBalanced_spec U T S (λ c L=>(F6 h c L).1) (OS h Z)
  (λ v=>by have:=Sx.best_bd Y T v;omega) (λ v=>by have:=Sx.best_bd V S v;omega)
 have G:=Hv a (by have:=h.tt;omega);have J:=R.len;have e:e9 a=tot a.2.1+a.2.2.1.length:=rfl;have F:=Jc (midF A b) (tot a.2.1) xA (by have:=h.tt;omega) R.bd;generalize midF A b=M at*;generalize kk a ws sep=N at*;obtain⟨E,C⟩:=N;obtain⟨an,al,z,q⟩:=a;refine kE Tryz.func195 ?_;intro O B X w0;refine ac kO aa (aE s H G F) ?_;exact⟨_,rfl,rfl,ap rfl,trivial⟩
end
end Go.Proofs.YtjjbhjnpeenbkaaGreatDoor.Al
