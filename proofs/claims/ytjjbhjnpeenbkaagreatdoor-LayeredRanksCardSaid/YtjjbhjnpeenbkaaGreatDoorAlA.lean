/- Vertices, widths, weights, validity. -/
import Derived.Test.YtjjbhjnpeenbkaaGreatDoorG
import Derived.Test.YtjjbhjnpeenbkaaGreatDoorO
import Derived.Test.YtjjbhjnpeenbkaaGreatDoorSxA
import Derived.Test.YtjjbhjnpeenbkaaGreatDoorSxZc
import Derived.Test.YtjjbhjnpeenbkaaGreatDoorPSNext
set_option linter.unusedSimpArgs false
set_option linter.unusedVariables false
set_option maxHeartbeats 16000000
namespace Go.Proofs.YtjjbhjnpeenbkaaGreatDoor.Al
open Go Go.PS Go.Proofs
set_option maxRecDepth 100000
attribute [local irreducible] Zad wpG Zaa Zah
theorem Zus (a:Lv)(h:tot a.2.1<=1000000):Zaa Tryz.prog 59 [lvD a] (.int (tot a.2.1)):=by
 obtain⟨n,ls,ar,cs⟩:=a;dsimp only at h;refine kE Tryz.func59 ?_;intro hat B X w0;have h1:=Zb7 0 1 hat rfl rfl;rw[uD]at h1;dsimp only at h1;refine kw1 kO kc0 kc0 ?_;refine Zae (λ(k:Nat)=>k<=ls.length) (λ k=>[(3, .int (tot (ls.take k))),(7, .d (Zag ls)),(8, .int ls.length),(9, .int k)]) (λ k=>[]) (λ k=>ls.length-k) 0 ?_ ?_ ?_
 ·exact uG _
 ·exact kN kc0 []
 ·intro k hk;rcases uC k ls.length with hlt|hge
  ·obtain⟨y,hy⟩:=Zac hlt;have e:=Zkr hy;have h2:=Zi5 ls (k+1);have e2:((tot (ls.take k):Nat):Int)+y.length=(tot (ls.take (k+1)):Nat):=by omega
   refine kw1 kO (kc2 hy e2) kc0 ?_;refine⟨k+1,?_,kN kc0 [],?_⟩
   ·omega
   ·omega
  ·have hk:k=ls.length:=by omega
   subst hk;rw[yH];refine kw1 kO kc0 kc0 ?_;exact rfl
theorem Ztp (a:Lv)(h:tot a.2.1<=1000000):Zaa Tryz.prog 118 [lvD a] (.int (tot a.2.1)):=by
 obtain⟨n,ls,ar,cs⟩:=a;dsimp only at h;refine kE Tryz.func118 ?_;intro hat B X w0;have h1:=Zb7 0 1 hat rfl rfl;rw[uD]at h1;dsimp only at h1;refine kw1 kO kc0 kc0 ?_;refine Zae (λ(k:Nat)=>k<=ls.length) (λ k=>[(1, .ptr 1 0 0 0),(3, .int (tot (ls.take k))),(4, .int k)]) (λ k=>[(1, .cells [.int n, .d (Zag ls), .d (Zal ar), .d (Zag cs)])]) (λ k=>ls.length-k) 0 ?_ ?_ ?_
 ·exact uG _
 ·exact kN kc0 []
 ·intro k hk;rcases uC k ls.length with hlt|hge
  ·obtain⟨y,hy⟩:=Zac hlt;have e:=Zkr hy;have h2:=Zi5 ls (k+1);have e2:((tot (ls.take k):Nat):Int)+y.length=(tot (ls.take (k+1)):Nat):=by omega
   refine kw1 kO (kc2 hy e2) kc0 ?_;refine⟨k+1,?_,kN kc0 [],?_⟩
   ·omega
   ·omega
  ·have hk:k=ls.length:=by omega
   subst hk;rw[yH];refine kw1 kO kc0 kc0 ?_;exact rfl
def ZcX (n:Int)(x:Arc):Int:=if n<=x.1/\n<=x.2 then 8 else if n<=x.1\/n<=x.2 then 2 else 1
theorem ZEh (a:Lv)(x:Arc):Zaa Tryz.prog 115 [lvD a,ZaX x] (.int (ZcX a.1 x)):=by
 obtain⟨n,ls,ar,cs⟩:=a;refine kE Tryz.func115 ?_;intro hat B X w0;refine kw kO kc0 kc0 ?_
 repeat' first|exact True.intro|refine Bn.mk ?_ ?_|intro hc
 all_goals
  refine Zaf ?_;rw[ZcX]
  repeat' split
  all_goals omega
theorem Ztq (a:Lv)(x:Arc):Zaa Tryz.prog 66 [lvD a,ZaX x] (.int (ZcX a.1 x)):=by
 obtain⟨n,ls,ar,cs⟩:=a;refine kE Tryz.func66 ?_;intro hat B X w0;refine kw kO kc0 kc0 ?_
 repeat' first|exact True.intro|refine Bn.mk ?_ ?_|intro hc
 all_goals
  refine Zaf ?_;rw[ZcX]
  repeat' split
  all_goals omega
def ZdT (ws:List Int)(v:Int):Int:=if v<ws.length then at0 ws v else 0
theorem Zuv (ws:List Int)(v:Int)(h0:0<=v):Zaa Tryz.prog 117 [Zab ws, .int v] (.int (ZdT ws v)):=by
 refine kE Tryz.func117 ?_;intro hat B X w0;have h1:=ZaY 0 hat rfl;rw[uD]at h1;by_cases c:v<ws.length
 ·have hg:=Zdq h0 c;obtain⟨n,rfl⟩:∃n:Nat,v=n:=⟨v.toNat,by omega⟩;rw[uK]at hg;refine kw1 kO (kc1 hg) kc0 ?_;refine Zaf ?_;rw[ZdT,if_pos c]
 ·refine kw1 kO kc0 kc0 ?_;refine Zaf ?_;rw[ZdT,if_neg c]
theorem Ztr (ws:List Int)(v:Int)(h0:0<=v):Zaa Tryz.prog 119 [Zab ws, .int v] (.int (ZdT ws v)):=by
 refine kE Tryz.func119 ?_;intro hat B X w0;have h1:=ZaY 0 hat rfl;rw[uD]at h1;by_cases c:v<ws.length
 ·have hg:=Zdq h0 c;obtain⟨n,rfl⟩:∃n:Nat,v=n:=⟨v.toNat,by omega⟩;rw[uK]at hg;refine kw1 kO (kc1 hg) kc0 ?_;refine Zaf ?_;rw[ZdT,if_pos c]
 ·refine kw1 kO kc0 kc0 ?_;refine Zaf ?_;rw[ZdT,if_neg c]
def szB (n:Int):Bool:=decide (0<=n/\n<=1048576)
theorem Zkj (n:Int):Zaa Tryz.prog 116 [.int n] (.bool (szB n)):=by
 refine kE Tryz.func116 ?_;intro hat B X w0;refine kw kO kc0 kc0 ?_
 repeat' first|exact True.intro|refine Bn.mk ?_ ?_|intro hc
 all_goals
  refine Zai ?_;simp[szB];omega
def Zcy (a:Lv)(ws:List Int)(sep:Int):Bool:=Zaw a&&decide ((ws.length:Int)=a.1)&&szB sep&& !ws.any λ w=> !szB w
theorem ZD9 (a:Lv)(ws:List Int)(sep:Int)(hw:wide a):Zaa Tryz.prog 60 [lvD a,Zab ws, .int sep] (.bool (Zcy a ws sep)):=by
 have hv:=ZhD a hw;have hs:=Zkj sep;rcases hva:Zaw a with _|_
 ·rw[hva]at hv;refine kE Tryz.func60 ?_;intro hat B X w0;have h1:=ZaY 1 hat rfl;rw[uD]at h1;refine kw1 kO kc0 (kc1 hv) ?_;refine Zai ?_;rw[Zcy,hva];rfl
 rw[hva]at hv;rcases hsa:szB sep with _|_
 ·rw[hsa]at hs;refine kE Tryz.func60 ?_;intro hat B X w0;have h1:=ZaY 1 hat rfl;rw[uD]at h1;refine kw kO kc0 (kc2 hv hs) ?_
  repeat' first|exact True.intro|refine Bn.mk ?_ ?_|intro hc
  all_goals
   refine Zai ?_;rw[Zcy,hsa];simp
 rw[hsa]at hs;by_cases hl:(ws.length:Int)=a.1
 ·have hh:=(Zi6 hva).1;simp only[Zfo,uF]at hh;have e:Zcy a ws sep= !ws.any λ w=> !szB w:=by simp[Zcy,hva,hsa,hl]
  rw[e];refine kE Tryz.func60 ?_;intro hat B X w0;refine kw1 kO (kc1 hl) (kc2 hv hs) ?_;refine Zae (λ(k:Nat)=>k<=ws.length/\∀(j:Nat) y,j<k->ws[j]? =some y->(!szB y)=false) (λ k=>[(24, .d (Zab ws)),(25, .int ws.length),(26, .int k)]) (λ k=>[]) (λ k=>ws.length-k) 0 ?_ ?_ ?_
  ·exact⟨uG _,λ j y h=>by omega⟩
  ·exact kN kc0 []
  ·rintro k ⟨hk,hinv⟩;rcases uC k ws.length with hlt|hge
   ·obtain⟨y,hy⟩:=Zac hlt;have hz:=Zkj y;rcases hzy:szB y with _|_
    ·rw[hzy]at hz;refine kw1 kO (kc1 hy) (kc1 hz) ?_;refine Zai ?_;rw[Zb0 hy (by simp[hzy])];rfl
    ·rw[hzy]at hz;refine kw1 kO (kc1 hy) (kc1 hz) ?_;refine⟨k+1,?_,kN kc0 [],?_⟩
     ·exact⟨by omega,Zbj hinv hy (by simp[hzy])⟩
     ·omega
   ·refine kw1 kO kc0 kc0 ?_;refine Zai ?_;rw[Zck (λ j y hj=>hinv j y (by omega))];rfl
 ·refine kE Tryz.func60 ?_;intro hat B X w0;have h1:=ZaY 1 hat rfl;rw[uD]at h1;refine kw1 kO (kc1 hl) (kc2 hv hs) ?_;refine Zai ?_;simp[Zcy,hl]
theorem ZlL (a:Lv)(ws:List Int)(sep:Int)(hw:wide a):Zaa Tryz.prog 63 [lvD a,Zab ws, .int sep] (.bool (Zcy a ws sep)):=by
 have hv:=Zn7 a hw;rw[<-ZoV]at hv;rcases hva:Zaw a with _|_
 ·rw[hva]at hv;refine kE Tryz.func63 ?_;intro hat B X w0;have h1:=ZaY 1 hat rfl;rw[uD]at h1;refine kw1 kO kc0 (kc1 hv) ?_;refine Zai ?_;rw[Zcy,hva];rfl
 rw[hva]at hv;by_cases hl:(ws.length:Int)=a.1
 ·have hh:=(Zi6 hva).1;simp only[Zfo,uF]at hh;refine kE Tryz.func63 ?_;intro hat B X w0;refine kw kO (kc1 hl) (kc1 hv) ?_
  repeat' first|exact True.intro|refine Bn.mk ?_ ?_|intro hc
  ·refine Zai ?_;rw[Zcy,szB];simp;omega
  ·refine Zai ?_;rw[Zcy,szB];simp;omega
  have e:Zcy a ws sep= !ws.any λ w=> !szB w:=by
   have:szB sep=true:=by rw[szB,uF];omega
   simp[Zcy,hva,this,hl]
  rw[e];refine Zae (λ(k:Nat)=>k<=ws.length/\∀(j:Nat) y,j<k->ws[j]? =some y->(!szB y)=false) (λ k=>[(1, .d (Zab ws)),(7, .int k)]) (λ k=>[]) (λ k=>ws.length-k) 0 ?_ ?_ ?_
  ·exact⟨uG _,λ j y h=>by omega⟩
  ·exact kN kc0 []
  ·rintro k ⟨hk,hinv⟩;rcases uC k ws.length with hlt|hge
   ·obtain⟨y,hy⟩:=Zac hlt;refine kw kO (kc1 hy) kc0 ?_
    repeat' first|exact True.intro|refine Bn.mk ?_ ?_|intro hc
    all_goals try
     refine Zai ?_;rw[Zb0 hy (by simp[szB];omega)];rfl
    refine⟨k+1,?_,eL [] _ _ (by refine⟨?_,?_⟩<;>(repeat' first|exact fmn|refine fmc ⟨(by first|rfl|(simp(disch:=omega) only[go_sem,simprocAttr,inL];first|done|omega|(congr 1;done))),?_⟩);done),?_⟩
    ·exact⟨by omega,Zbj hinv hy (by simp[szB];omega)⟩
    ·omega
   ·refine kw1 kO kc0 kc0 ?_;refine Zai ?_;rw[Zck (λ j y hj=>hinv j y (by omega))];rfl
 ·refine kE Tryz.func63 ?_;intro hat B X w0;have h1:=ZaY 1 hat rfl;rw[uD]at h1;refine kw1 kO (kc1 hl) (kc1 hv) ?_
  all_goals
   refine Zai ?_;simp[Zcy,hl]
open Sx (Bd bdD Zbx Net nD)
structure VA (a:Lv)(ws:List Int)(sep:Int):Prop where
 ok:Zcy a ws sep=true
 v:Zaw a=true
 n:0<=a.1/\a.1<=64
 len:(ws.length:Int)=a.1
 tt:tot a.2.1<=512
 ls:a.2.1.length<=256
 sep:0<=sep/\sep<=1048576
 ws:∀w,w∈ws->0<=w/\w<=1048576
 vert:∀y,y∈a.2.1->∀x,x∈y->0<=x/\x<tot a.2.1
 nodup:a.2.1.flatten.Nodup
 arcs:∀x,x∈a.2.2.1->(0<=x.1/\x.1<tot a.2.1)/\0<=x.2/\x.2<tot a.2.1
theorem Zl2 {a:Lv}(h:Zaw a=true):a.2.1.length<=256/\tot a.2.1<=512/\(∀y,y∈a.2.1->∀x,x∈y->0<=x/\x<tot a.2.1)/\a.2.1.flatten.Nodup:=by
 obtain⟨_,_,hr⟩:=Zie h;obtain⟨h1,h2,h3,_⟩:=ZiW hr;rw[Zgs]at h3;exact⟨h1,h2,λ y hy x hx=>h3.1 x (Ah.2 ⟨y,hy,hx⟩),h3.2⟩
theorem ZhY {α:Type}{g:Nat->List α}{x:α}:∀{n:Nat},x∈Za5 g n↔∃k,k<n/\x∈g k
 |0=>by simp[Za5]
 |n+1=>by
  rw[Za5,yO,ZhY];constructor
  ·rintro(⟨k,h1,h2⟩|h)
   ·exact⟨k,by omega,h2⟩
   ·exact⟨n,by omega,h⟩
  ·rintro⟨k,h1,h2⟩;rcases qB.1 h1 with h|rfl
   ·exact .inl ⟨k,h,h2⟩
   ·exact .inr h2
theorem ZoS {a:Lv}(h:Zaw a=true):∀x,x∈a.2.2.1->(0<=x.1/\x.1<tot a.2.1)/\0<=x.2/\x.2<tot a.2.1:=by
 obtain⟨b,hm,hr⟩:=Zie h;have e1:a.2.2.1=ZaU (Zbb a) (Za1 a).2 (Za1 a).2.length:=gB (λ x:Lv=>x.2.2.1) hm;have e2:tot a.2.1=(ZaE (Zbb a) (Za1 a).2 (Za1 a).2.length).length:=by
  obtain⟨_,_,_,h4⟩:=ZiW hr;rw[h4,Ze6]
 rw[e1,e2];intro x hx;obtain⟨e,he,hx⟩:=ZhY.1 hx;obtain⟨y,hy⟩:=Zac he;rw[Zis,hy]at hx;obtain⟨j,hj,rfl⟩:=uP.1 hx;have hj:=yA.1 hj;have c1:=b.chain_at hy (j:=j) (by omega);have c2:=b.chain_at hy (j:=j+1) (by omega);exact⟨⟨c1.1,c1.2.1⟩,c2.1,c2.2.1⟩
theorem VA.of {a:Lv}{ws:List Int}{sep:Int}(h:Zcy a ws sep=true):VA a ws sep:=by
 have h0:=h;simp only[Zcy,uM,uF,yI,szB]at h;obtain⟨⟨⟨h1,h2⟩,h3⟩,h4⟩:=h;have hh:=(Zi6 h1).1;simp only[Zfo,uF]at hh;obtain⟨g1,g2,g3,g4⟩:=Zl2 h1;refine⟨h0,h1,⟨hh.1,hh.2.1⟩,h2,g2,g1,h3,λ w hw=>?_,g3,g4,ZoS h1⟩;have:=qA.1 h4 w hw;simpa using this
def apF (ws:List Int)(sep u v:Int):Int:=(ZdT ws u+ZdT ws v+1)/2+sep
theorem Zi9 {a:Lv}{ws:List Int}{sep:Int}(h:VA a ws sep)(v:Int):0<=ZdT ws v/\ZdT ws v<=1048576:=by
 rw[ZdT];split
 ·rename_i hv;rw[at0];cases hx:ws[v.toNat]? with
  |none=>simp
  |some w=>exact h.ws w (uA hx)
 ·omega
theorem Zjj {a:Lv}{ws:List Int}{sep:Int}(h:VA a ws sep)(u v:Int):0<=apF ws sep u v/\apF ws sep u v<=2097153:=by
 have:=Zi9 h u;have:=Zi9 h v;have:=h.sep;rw[apF];omega
def Zn3 (ws:List Int)(sep:Int)(x:List Int)(j:Nat):Bd:=(at0 x (j:Int),at0 x ((j+1:Nat):Int),apF ws sep (at0 x (j:Int)) (at0 x ((j+1:Nat):Int)),0)
def prN (ws:List Int)(sep:Int)(x:List Int)(k:Nat):List Bd:=(List.range k).map (Zn3 ws sep x)
theorem ZsH (ws:List Int)(sep:Int)(x:List Int)(k:Nat):prN ws sep x (k+1)=prN ws sep x k++[Zn3 ws sep x k]:=by simp[prN,qP]
theorem ZsG {ws:List Int}{sep:Int}{x:List Int}{j:Nat}{u v:Int}(h1:1<=j)(hu:x[j-1]? =some u)(hv:x[j]? =some v):prN ws sep x j=prN ws sep x (j-1)++[(u,v,apF ws sep u v,0)]:=by
 obtain⟨i,rfl⟩:∃i,j=i+1:=⟨j-1,by omega⟩;rw[zU]at hu|-;rw[ZsH,Zn3];have e1:at0 x (i:Int)=u:=by rw[at0,uK,hu];rfl
 have e2:at0 x ((i+1:Nat):Int)=v:=by rw[at0,uK,hv];rfl
 rw[e1,e2]
theorem Zn4 (ws:List Int)(sep:Int)(x:List Int)(k:Nat):(prN ws sep x k).length=k:=by simp[prN]
def prL (ws:List Int)(sep:Int)(ls:List (List Int))(i:Nat):List Bd:=match ls[i]? with
 |some x=>prN ws sep x (x.length-1)
 |none=>[]
def Zbr (ws:List Int)(sep:Int)(ls:List (List Int))(k:Nat):List Bd:=Za5 (prL ws sep ls) k
theorem Zmk {ws:List Int}{sep:Int}{ls:List (List Int)}{k:Nat}{x:List Int}(h:ls[k]? =some x):Zbr ws sep ls (k+1)=Zbr ws sep ls k++prN ws sep x (x.length-1):=by
 rw[Zbr,Za5,prL,h];rfl
def Zdt (ws:List Int)(sep:Int)(ls:List (List Int))(k:Nat)(x:List Int)(j:Nat):List Bd:=Zbr ws sep ls k++prN ws sep x (j-1)
theorem ZmS (ws:List Int)(sep:Int)(ls:List (List Int))(k:Nat)(x:List Int):Zdt ws sep ls k x 1=Zbr ws sep ls k:=by simp[Zdt,prN]
theorem ZmT {ws:List Int}{sep:Int}{ls:List (List Int)}{k:Nat}{x:List Int}{j:Nat}{u v:Int}(h1:1<=j)(hu:x[j-1]? =some u)(hv:x[j]? =some v):
  Zdt ws sep ls k x (j+1)=Zdt ws sep ls k x j++[(u,v,apF ws sep u v,0)]:=by
 rw[Zdt,Zdt,zU,ZsG h1 hu hv,qJ]
theorem ZmR {ws:List Int}{sep:Int}{ls:List (List Int)}{k:Nat}{x:List Int}{j:Nat}(h:ls[k]? =some x)(hj:j-1=x.length-1):Zbr ws sep ls (k+1)=Zdt ws sep ls k x j:=by
 rw[Zmk h,Zdt,hj]
theorem Zji (ws:List Int)(sep:Int)(ls:List (List Int)):∀k,k<=ls.length->(Zbr ws sep ls k).length<=tot (ls.take k)
 |0,_=>by simp[Zbr,Za5]
 |k+1,hk=>by
  obtain⟨x,hx⟩:=Zac (show k<ls.length by omega);have:=Zji ws sep ls k (by omega);rw[Zmk hx,uH,Zn4,Zkr hx];omega
abbrev Zj5 (b:Bd):D:= .ag [.int b.1, .int b.2.1, .int b.2.2.1]
theorem ZAa (a:Lv)(ws:List Int)(sep:Int)(h:VA a ws sep):Zaa Tryz.prog 62 [lvD a,Zab ws, .int sep] (.sl ((Zbr ws sep a.2.1 a.2.1.length).map Zj5)):=by
 obtain⟨n,ls,ar,cs⟩:=a;have hl:=h.ls;have ht:=h.tt;have hvt:=h.vert;dsimp only at hl ht hvt|-;refine kE Tryz.func62 ?_;intro hat B X w0;refine kw1 kO kc0 kc0 ?_;refine Zaq _ (Zc3 7 901 3 rfl rfl) ?_;refine Zae (λ(k:Nat)=>k<=ls.length) (λ k=>[(1, .d (Zab ws)),(2, .int sep),(7, .ref 901 3 0 (Zbr ws sep ls k).length (Zbr ws sep ls k).length),(14, .d (Zag ls)),(15, .int ls.length),(16, .int k)]) (λ k=>[(901, .row 3 ((Zbr ws sep ls k).map Zj5))]) (λ k=>ls.length-k) 0 ?_ ?_ ?_
 ·exact uG _
 ·exact kN kc0 []
 ·intro k hk;have hAl:=Zji ws sep ls k hk;have hAt:=Zi5 ls k;rcases uC k ls.length with hlt|hge
  ·obtain⟨x,hx⟩:=Zac hlt;have hxl:=Zde (uA hx);have hxv:=hvt x (uA hx);refine kw1 kO (kc1 hx) kc0 ?_;refine Zae (λ(j:Nat)=>1<=j/\j-1<=x.length-1) (λ j=>[(1, .d (Zab ws)),(2, .int sep),(7, .ref 901 3 0 (Zdt ws sep ls k x j).length (Zdt ws sep ls k x j).length),(9, .d (Zab x)),(10, .int j),(14, .d (Zag ls)),(15, .int ls.length),(16, .int k)]) (λ j=>[(901, .row 3 ((Zdt ws sep ls k x j).map Zj5))]) (λ j=>x.length-j) 1 ?_ ?_ ?_
   ·omega
   ·exact kN (kc1 @ZmS) []
   ·rintro j ⟨hj1,hj⟩;have hpl:=Zn4 ws sep x (j-1);rcases uC j x.length with hjl|hjl
    ·obtain⟨u,g1⟩:=Zac (show j-1<x.length by omega);obtain⟨v,g2⟩:=Zac hjl;have i1:=hxv _ (uA g1);have i2:=hxv _ (uA g2);have e1:(j:Int)-1=(j-1:Nat):=by omega
     have w1:=Zuv ws u i1.1;have w2:=Zuv ws v i2.1;have b1:=Zi9 h u;have b2:=Zi9 h v;have b3:=h.sep;have hq:(ZdT ws u+ZdT ws v+1).tdiv 2+sep=apF ws sep u v:=by
      rw[apF,zV (by omega)]
     have hp:=ZmT (ws:=ws) (sep:=sep) (ls:=ls) (k:=k) hj1 g1 g2;have hap:=Zjj h u v;have hll:(Zdt ws sep ls k x j).length<=2000:=by rw[Zdt,uH,hpl];omega
     refine kw1 kO (kc5 e1 g1 g2 hq @Zan) (kc2 w1 w2) ?_;refine⟨j+1,?_,kN (kc6 hp @uH.{0} @yL.{0} @uR.{0,0} @uS.{0,0} @yE.{0,0}) [(901,51)],?_⟩
     ·omega
     ·omega
    ·have hj:j-1=x.length-1:=by omega
     have hs:=ZmR (ws:=ws) (sep:=sep) hx hj;refine kw1 kO kc0 kc0 ?_;refine⟨k+1,?_,kN (kc1 hs) [],?_⟩
     ·omega
     ·omega
  ·have hk:k=ls.length:=by omega
   subst hk;refine kw1 kO kc0 kc0 ?_;exact Zch (o:=901) rfl rfl (by simp) (by rw[uE (by simp)])
def Zir (a:Lv)(k:Nat)(x:Arc):List Bd:=[(((tot a.2.1+k:Nat):Int),x.1,0,ZcX a.1 x),(((tot a.2.1+k:Nat):Int),x.2,0,ZcX a.1 x)]
def Zmo (a:Lv)(k:Nat):List Bd:=match a.2.2.1[k]? with
 |some x=>Zir a k x
 |none=>[]
def Zgh (a:Lv)(k:Nat):List Bd:=Za5 (Zmo a) k
theorem Zmp {a:Lv}{k:Nat}{x:Arc}(h:a.2.2.1[k]? =some x):Zgh a (k+1)=Zgh a k++Zir a k x:=by
 rw[Zgh,Za5,Zmo,h];rfl
theorem ZkM (a:Lv):∀k,k<=a.2.2.1.length->(Zgh a k).length=2*k
 |0,_=>rfl
 |k+1,hk=>by
  obtain⟨x,hx⟩:=Zac (show k<a.2.2.1.length by omega);rw[Zmp hx,uH,ZkM a k (by omega),Zir];simp;omega
def Zf3 (a:Lv)(ws:List Int)(sep:Int):Net:=(((tot a.2.1+a.2.2.1.length:Nat):Int),Zgh a a.2.2.1.length++Zbr ws sep a.2.1 a.2.1.length)
theorem Zpo (a:Lv)(k:Nat)(x:Arc):∀d,d∈[bdD (((tot a.2.1+k:Nat):Int),x.1,0,ZcX a.1 x),bdD (((tot a.2.1+k:Nat):Int),x.2,0,ZcX a.1 x)]->d.cells.length=4:=by
 intro d hd;simp only[yD,gP,Cc]at hd;rcases hd with rfl|rfl<;>rfl
theorem Zu9 (ws:List Int)(sep:Int)(ls:List (List Int))(k:Nat):∀q,q∈Zbr ws sep ls k->q.2.2.2=0:=by
 intro q hq;obtain⟨i,_,hq⟩:=ZhY.1 hq;rw[prL]at hq;split at hq
 ·obtain⟨j,_,rfl⟩:=uP.1 hq;rfl
 ·simp at hq
theorem ZuR (a:Lv)(ws:List Int)(sep:Int)(hw:wide a)(h:VA a ws sep)(hal:a.2.2.1.length<=1000):Zaa Tryz.prog 57 [lvD a,Zab ws, .int sep] (.tup [nD (Zf3 a ws sep), .int 0]):=by
 have hv:=ZD9 a ws sep hw;rw[h.ok]at hv;have ht:=h.tt;have hvx:=Zus a (by omega);have hps:=ZAa a ws sep h;have hwt:=ZEh a;have hAl:=Zji ws sep a.2.1 a.2.1.length (uI _);rw[yH]at hAl;rw[Zf3];have hab:=ZkM a;have hsa:= @Zmp a;have hbc:=Zpo a;revert hab hsa hbc;unfold Zir;generalize Zgh a=AB;intro hab hsa hbc;obtain⟨n,ls,ar,cs⟩:=a;dsimp only at ht hvx hps hwt hAl hab hsa hbc hal|-;have hpz:=Zu9 ws sep ls ls.length;generalize Zbr ws sep ls ls.length=PL at hps hAl hpz|-;refine kE Tryz.func57 ?_;intro hat B X w0;have e0:(tot ls:Int)+ar.length=((tot ls+ar.length:Nat):Int):=by omega
 refine kw1 kO (kc1 e0) (kc2 hv hvx) ?_;refine Zaq _ (Zb9 8 1 901 4 rfl rfl rfl) ?_;refine Zae (λ(k:Nat)=>k<=ar.length) (λ k=>[(1, .d (Zab ws)),(2, .int sep),(3, .ptr 3 0 0 0),(6, .ptr 6 0 0 0),(8, .ptr 8 0 0 0),(29, .d (Zal ar)),(30, .int ar.length),(31, .int k)]) (λ k=>[(3, .cells [.int n, .d (Zag ls), .d (Zal ar), .d (Zag cs)]),(6, .cells [.int 0, .nilS]),(8, .cells [.int ((tot ls+ar.length:Nat):Int), .ref 901 4 0 (AB k).length (AB k).length]),(901, .row 4 ((AB k).map bdD))]) (λ k=>ar.length-k) 0 ?_ ?_ ?_
 ·exact uG _
 ·have hz:AB 0=[]:=jP.1 (hab 0 (by omega));exact kN (kc1 hz) []
 ·intro k hk;have hkl:=hab k hk;rcases uC k ar.length with hlt|hge
  ·obtain⟨x,hx⟩:=Zac hlt;have hs:=hsa hx;have hc1:=hbc k x;have hw1:=hwt x;have e1:(tot ls:Int)+k=((tot ls+k:Nat):Int):=by omega
   revert hs hc1 hw1;generalize ZcX n x=wg;intro hs hc1 hw1;refine kw1 kO (kc3 hx e1 @Zan) (kc2 hvx hw1) ?_;refine⟨k+1,?_,kN (kc7 hs @uH.{0} @uX.{0} @uW.{0} @uR.{0,0} @uS.{0,0} @yE.{0,0}) [(901,56)],?_⟩
   ·omega
   ·omega
  ·have hk:k=ar.length:=by omega
   subst hk;obtain⟨C,hC⟩:∃C:Nat->List Bd,C=λ j=>AB ar.length++PL.take j:=⟨_,rfl⟩
   have hC0:C 0=AB ar.length:=by rw[hC];simp
   have hCe:AB ar.length++PL=C PL.length:=by rw[hC];simp
   have hCs:∀(j:Nat) q,PL[j]? =some q->C (j+1)=C j++[q]:=λ j q hq=>by simp only[hC];rw[ZaA hq,qJ]
   have hCl:∀j,(C j).length<=3000:=λ j=>by simp only[hC];rw[uH,yF];omega
   rw[hCe];refine kw1 kO kc0 (kc1 hps) ?_;refine Zae (λ(j:Nat)=>j<=PL.length) (λ j=>[(6, .ptr 6 0 0 0),(8, .ptr 8 0 0 0),(62, .d (.sl (PL.map Zj5))),(63, .int PL.length),(64, .int j)]) (λ j=>[(6, .cells [.int 0, .nilS]),(8, .cells [.int ((tot ls+ar.length:Nat):Int), .ref 901 4 0 (C j).length (C j).length]),(901, .row 4 ((C j).map bdD))]) (λ j=>PL.length-j) 0 ?_ ?_ ?_
   ·exact uG _
   ·exact kN (kc1 hC0) []
   ·intro j hj;have hlj:=hCl j;rcases uC j PL.length with hlt|hge
    ·obtain⟨⟨u,v,p,z⟩,hq⟩:=Zac hlt;have hz:=hpz _ (uA hq);dsimp only at hz;subst hz;have hs:=hCs j _ hq;refine kw1 kO (kc2 hq @Zan) kc0 ?_;refine⟨j+1,?_,kN (kc6 hs @uH.{0} @yL.{0} @uR.{0,0} @uS.{0,0} @yE.{0,0}) [(901,78)],?_⟩
     ·omega
     ·omega
    ·have hj:j=PL.length:=by omega
     subst hj;refine kw1 kO kc0 kc0 ?_;refine⟨_,rfl,⟨_,_,_,_,rfl,?_⟩,?_,trivial⟩
     ·simp(disch:=omega) only[go_sem,simprocAttr];rw[uE (by simp)]
     ·rfl
theorem ZsY {a:Lv}{ws:List Int}{sep:Int}(h:VA a ws sep)(u v:Int)(hu:0<=u)(hv:0<=v):Zaa Tryz.prog 65 [Zab ws, .int sep, .int u, .int v] (.int (apF ws sep u v)):=by
 have w1:=Ztr ws u hu;have w2:=Ztr ws v hv;have b1:=Zi9 h u;have b2:=Zi9 h v;have b3:=h.sep;have hq:(ZdT ws u+ZdT ws v+1).tdiv 2+sep=apF ws sep u v:=by
  rw[apF,zV (by omega)]
 have hap:=Zjj h u v;refine kE Tryz.func65 ?_;intro hat B X w0;refine kw1 kO (kc1 hq) (kc2 w1 w2) ?_;exact rfl
theorem Zkc (a:Lv)(ws:List Int)(sep:Int)(hw:wide a)(h:VA a ws sep)(hal:a.2.2.1.length<=1000):Zaa Tryz.prog 231 [lvD a,Zab ws, .int sep] (.tup [nD (Zf3 a ws sep), .int 0]):=by
 have hv:=ZlL a ws sep hw;rw[h.ok]at hv;have ht:=h.tt;have hl:=h.ls;have hvt:=h.vert;have hvx:=Ztp a (by omega);have hds:=ZsY h;have hwt:=Ztq a;have hap:=Zjj h;rw[Zf3];have hab:=ZkM a;have hsa:= @Zmp a;have hbc:=Zpo a;revert hab hsa hbc;unfold Zir;generalize Zgh a=AB;intro hab hsa hbc;obtain⟨n,ls,ar,cs⟩:=a;dsimp only at ht hl hvt hvx hds hwt hab hsa hbc hal|-;refine kE Tryz.func231 ?_;intro hat B X w0;have e0:(tot ls:Int)+ar.length=((tot ls+ar.length:Nat):Int):=by omega
 refine kw1 kO (kc1 e0) (kc2 hv hvx) ?_;refine Zaq _ (Zb9 9 1 901 4 rfl rfl rfl) ?_;refine Zae (λ(k:Nat)=>k<=ar.length) (λ k=>[(1, .d (Zab ws)),(2, .int sep),(3, .ptr 3 0 0 0),(6, .ptr 6 0 0 0),(8, .int (tot ls)),(9, .ptr 9 0 0 0),(10, .int k)]) (λ k=>[(3, .cells [.int n, .d (Zag ls), .d (Zal ar), .d (Zag cs)]),(6, .cells [.int 0, .nilS]),(9, .cells [.int ((tot ls+ar.length:Nat):Int), .ref 901 4 0 (AB k).length (AB k).length]),(901, .row 4 ((AB k).map bdD))]) (λ k=>ar.length-k) 0 ?_ ?_ ?_
 ·exact uG _
 ·have hz:AB 0=[]:=jP.1 (hab 0 (by omega));exact kN (kc1 hz) []
 ·intro k hk;have hkl:=hab k hk;rcases uC k ar.length with hlt|hge
  ·obtain⟨x,hx⟩:=Zac hlt;have hs:=hsa hx;have hw1:=hwt x;have hT:∀d:D,List.take ((AB k).length+1) (List.map bdD (AB k)++[d])=List.map bdD (AB k)++[d]:=λ d=>uE (by simp)
   have e1:(tot ls:Int)+k=((tot ls+k:Nat):Int):=by omega
   revert hs hw1;generalize ZcX n x=wg;intro hs hw1;refine kw1 kO (kc5 hx e1 @Zan @uH.{0} @yL.{0}) (kc1 hw1) ?_;refine⟨k+1,?_,kN (kc8 hs hT @uH.{0} @uX.{0} @uW.{0} @uR.{0,0} @uS.{0,0} (kc4 @yE.{0,0} @qJ.{0} @gX.{0} @gL.{0})) [(901,68)],?_⟩
   ·omega
   ·omega
  ·have hk:k=ar.length:=by omega
   subst hk;have hCl:∀k,k<=ls.length->(AB ar.length++Zbr ws sep ls k).length<=3000:=λ k hk=>by
    have h1:=Zji ws sep ls k hk;have h2:=Zi5 ls k;rw[uH];omega
   refine kw1 kO kc0 kc0 ?_;refine Zae (λ(i:Nat)=>i<=ls.length) (λ i=>[(1, .d (Zab ws)),(2, .int sep),(3, .ptr 3 0 0 0),(6, .ptr 6 0 0 0),(9, .ptr 9 0 0 0),(12, .int i)]) (λ i=>[(3, .cells [.int n, .d (Zag ls), .d (Zal ar), .d (Zag cs)]),(6, .cells [.int 0, .nilS]),(9, .cells [.int ((tot ls+ar.length:Nat):Int), .ref 901 4 0 (AB ar.length++Zbr ws sep ls i).length (AB ar.length++Zbr ws sep ls i).length]),(901, .row 4 ((AB ar.length++Zbr ws sep ls i).map bdD))]) (λ i=>ls.length-i) 0 ?_ ?_ ?_
   ·exact uG _
   ·exact eL [] _ _ (by refine⟨?_,?_⟩<;>(repeat' first|exact fmn|refine fmc ⟨(by first|rfl|(simp(disch:=omega) only[go_sem,simprocAttr,inL,Zbr,Za5,yT];first|done|omega|(congr 1;done))),?_⟩);done)
   ·intro i hi;have hil:=hCl i hi;rcases uC i ls.length with hlt|hge
    ·obtain⟨x,hx⟩:=Zac hlt;have hxv:=hvt x (uA hx);have hxl:=Zde (uA hx);have hil2:=hCl (i+1) hlt;obtain⟨E,hE⟩:∃E:Nat->List Bd,E=λ j=>AB ar.length++Zdt ws sep ls i x j:=⟨_,rfl⟩
     have hE1:AB ar.length++Zbr ws sep ls i=E 1:=by rw[hE];simp only[ZmS]
     have hEe:∀j,j-1=x.length-1->AB ar.length++Zbr ws sep ls (i+1)=E j:=λ j hj=>by rw[hE];simp only[ZmR hx hj]
     have hEs:∀(j:Nat) u v,1<=j->x[j-1]? =some u->x[j]? =some v->E (j+1)=E j++[(u,v,apF ws sep u v,0)]:=λ j u v h1 h2 h3=>by simp only[hE];rw[ZmT h1 h2 h3,qJ]
     have hEl:∀j,j-1<=x.length-1->(E j).length<=4000:=λ j hj=>by
      simp only[hE,Zdt];rw[<-qJ,uH,Zn4];omega
     rw[hE1];refine kw1 kO (kc1 hx) kc0 ?_;refine Zae (λ(j:Nat)=>1<=j/\j-1<=x.length-1) (λ j=>[(1, .d (Zab ws)),(2, .int sep),(3, .ptr 3 0 0 0),(6, .ptr 6 0 0 0),(9, .ptr 9 0 0 0),(12, .int i),(13, .int j)]) (λ j=>[(3, .cells [.int n, .d (Zag ls), .d (Zal ar), .d (Zag cs)]),(6, .cells [.int 0, .nilS]),(9, .cells [.int ((tot ls+ar.length:Nat):Int), .ref 901 4 0 (E j).length (E j).length]),(901, .row 4 ((E j).map bdD))]) (λ j=>x.length-j) 1 ?_ ?_ ?_
     ·omega
     ·exact kN kc0 []
     ·rintro j ⟨hj1,hj⟩;have hlj:=hEl j hj;rcases uC j x.length with hjl|hjl
      ·obtain⟨u,g1⟩:=Zac (show j-1<x.length by omega);obtain⟨v,g2⟩:=Zac hjl;have i1:=hxv _ (uA g1);have i2:=hxv _ (uA g2);have e1:(j:Int)-1=(j-1:Nat):=by omega
       have hd:=hds u v i1.1 i2.1;have hp:=hEs j u v hj1 g1 g2;have hq:=hap u v;refine kw1 kO (kc5 hx e1 g1 g2 @Zan) (kc1 hd) ?_;refine⟨j+1,?_,kN (kc6 hp @uH.{0} @yL.{0} @uR.{0,0} @uS.{0,0} @yE.{0,0}) [(901,115)],?_⟩
       ·omega
       ·omega
      ·have hj:j-1=x.length-1:=by omega
       have hs:=hEe j hj;refine kw1 kO (kc1 hx) kc0 ?_;refine⟨i+1,?_,kN (kc1 hs) [],?_⟩
       ·omega
       ·omega
    ·have hi:i=ls.length:=by omega
     subst hi;refine kw1 kO kc0 kc0 ?_;refine⟨_,rfl,⟨_,_,_,_,rfl,?_⟩,?_,trivial⟩
     ·simp(disch:=omega) only[go_sem,simprocAttr];rw[uE (by simp)]
     ·rfl
end Go.Proofs.YtjjbhjnpeenbkaaGreatDoor.Al
namespace Go.Proofs.YtjjbhjnpeenbkaaGreatDoor.Al
open Go Go.PS Go.Proofs
open Sx (Bd ZfZ Zgv)
set_option maxRecDepth 100000
attribute [local irreducible] Zad wpG Zaa Zah
def inX (n:Int):Bool:=decide (-34359738368<=n/\n<=34359738368)
def Zd3 (a:Lv)(x:List Int):Bool:=decide (x.length=tot a.2.1)&& !x.any λ n=> !inX n
theorem ZlG (a:Lv)(x:List Int)(h:tot a.2.1<=1000000):Zaa Tryz.prog 64 [lvD a,Zab x] (.bool (Zd3 a x)):=by
 have hv:=Ztp a h;by_cases hl:x.length=tot a.2.1
 ·have e:Zd3 a x= !x.any λ n=> !inX n:=by simp[Zd3,hl]
  rw[e];have hl':(x.length:Int)=tot a.2.1:=by omega
  refine kE Tryz.func64 ?_;intro hat B X w0;refine kw1 kO (kc1 @hl') (kc1 hv) ?_;refine Zae (λ(k:Nat)=>k<=x.length/\∀(j:Nat) y,j<k->x[j]? =some y->(!inX y)=false) (λ k=>[(1, .d (Zab x)),(5, .int k)]) (λ k=>[]) (λ k=>x.length-k) 0 ?_ ?_ ?_
  ·exact⟨uG _,λ j y h=>by omega⟩
  ·exact kN kc0 []
  ·rintro k ⟨hk,hinv⟩;rcases uC k x.length with hlt|hge
   ·obtain⟨y,hy⟩:=Zac hlt;refine kw kO (kc1 hy) kc0 ?_
    repeat' first|exact True.intro|refine Bn.mk ?_ ?_|intro hc
    all_goals try
     refine Zai ?_;rw[Zb0 hy (by simp[inX];omega)];rfl
    refine⟨k+1,?_,eL [] _ _ (by refine⟨?_,?_⟩<;>(repeat' first|exact fmn|refine fmc ⟨(by first|rfl|(simp(disch:=omega) only[go_sem,simprocAttr,inL];first|done|omega|(congr 1;done))),?_⟩);done),?_⟩
    ·exact⟨by omega,Zbj hinv hy (by simp[inX];omega)⟩
    ·omega
   ·refine kw1 kO kc0 kc0 ?_;refine Zai ?_;rw[Zck (λ j y hj=>hinv j y (by omega))];rfl
 ·have hl':¬(x.length:Int)=tot a.2.1:=by omega
  refine kE Tryz.func64 ?_;intro hat B X w0;have h1:=ZaY 1 hat rfl;rw[uD]at h1;refine kw1 kO (kc1 @hl') (kc1 hv) ?_;refine Zai ?_;simp[Zd3,hl]
structure Fits (a:Lv)(x:List Int):Prop where
 len:x.length=tot a.2.1
 at':∀v:Int,0<=v->v<tot a.2.1->x[v.toNat]? =some (at0 x v)/\-34359738368<=at0 x v/\at0 x v<=34359738368
theorem Fits.of {a:Lv}{x:List Int}(h:Zd3 a x=true):Fits a x:=by
 simp only[Zd3,uM,uF,yI]at h;refine⟨h.1,λ v h0 h1=>?_⟩;have hg:=Zdq (r:=x) h0 (by omega);have:=qA.1 h.2 _ (uA hg);simp only[inX,yI,Ak,uF,Bool.not_eq_false]at this;exact⟨hg,this⟩
def ZfN (d:Int):Int:=max d (-d)
def ZhN (a:Lv)(x:List Int)(e:Arc):Int:=ZcX a.1 e*ZfN (at0 x e.1-at0 x e.2)
def ZeT (a:Lv)(x:List Int):Nat->Int
 |0=>0
 |k+1=>ZeT a x k+match a.2.2.1[k]? with|some e=>ZhN a x e|none=>0
def Zp9 (a:Lv)(x:List Int):Int:=if Zaw a&&Zd3 a x then ZeT a x a.2.2.1.length else 0
theorem ZoX (n:Int)(e:Arc):1<=ZcX n e/\ZcX n e<=8:=by
 rw[ZcX];repeat' split
 all_goals omega
theorem Zqc {a:Lv}{x:List Int}(hv:Zaw a=true)(hf:Fits a x){e:Arc}(he:e∈a.2.2.1):0<=ZhN a x e/\ZhN a x e<=549755813888:=by
 have h1:=ZoS hv e he;have h2:=hf.at' e.1 h1.1.1 h1.1.2;have h3:=hf.at' e.2 h1.2.1 h1.2.2;have h4:=ZoX a.1 e;have h5:0<=ZfN (at0 x e.1-at0 x e.2)/\ZfN (at0 x e.1-at0 x e.2)<=68719476736:=by rw[ZfN];omega
 rw[ZhN];refine⟨Dg (by omega) h5.1,?_⟩;have h6:ZcX a.1 e*ZfN (at0 x e.1-at0 x e.2)<=8*ZfN (at0 x e.1-at0 x e.2):=jX h4.2 h5.1;omega
theorem Zqb {a:Lv}{x:List Int}(hv:Zaw a=true)(hf:Fits a x):∀k,k<=a.2.2.1.length->0<=ZeT a x k/\ZeT a x k<=549755813888*k
 |0,_=>by simp[ZeT]
 |k+1,hk=>by
  obtain⟨e,he⟩:=Zac (show k<a.2.2.1.length by omega);have h1:=Zqb hv hf k (by omega);have h2:=Zqc hv hf (uA he);rw[ZeT,he];dsimp only;omega
theorem ZAR (a:Lv)(x:List Int)(hw:wide a)(h:(Zaw a&&Zd3 a x)=false):Zaa Tryz.prog 20 [lvD a,Zab x] (.int 0):=by
 have hv:=Zn7 a hw;rw[<-ZoV]at hv;rcases hva:Zaw a with _|_
 ·rw[hva]at hv;refine kE Tryz.func20 ?_;intro hat B X w0;refine kw1 kO kc0 (kc1 hv) ?_;exact rfl
 ·rw[hva]at hv h;have hf:=ZlG a x (by have:=(Zl2 hva).2.1;omega);rw[kC]at h;rw[h]at hf;refine kE Tryz.func20 ?_;intro hat B X w0;refine kw1 kO kc0 (kc2 hv hf) ?_;exact rfl
theorem ZAS (a:Lv)(x:List Int)(hw:wide a)(hva:Zaw a=true)(hfa:Zd3 a x=true)(hal:a.2.2.1.length<=1000):Zaa Tryz.prog 20 [lvD a,Zab x] (.int (ZeT a x a.2.2.1.length)):=by
 have hv:=Zn7 a hw;rw[<-ZoV,hva]at hv;have hf:=ZlG a x (by have:=(Zl2 hva).2.1;omega);rw[hfa]at hf;have hF:=Fits.of hfa;have hat':=hF.at';have hxl:=hF.len;have hwt:=Ztq a;have hin:=Zqb hva hF;have hti:=λ e he=>Zqc hva hF (e:=e) he
 have harc:=ZoS hva;have hcs:∀(k:Nat) e,a.2.2.1[k]? =some e->ZeT a x (k+1)=ZeT a x k+ZhN a x e:=λ k e he=>by rw[ZeT,he]
 have hct:∀e,ZhN a x e=ZcX a.1 e*ZfN (at0 x e.1-at0 x e.2):=λ e=>rfl
 have hcz:ZeT a x 0=0:=rfl;revert hin hti hcs hct hcz;generalize ZeT a x=S;generalize ZhN a x=T;intro hin hti hcs hct hcz;have htt:=(Zl2 hva).2.1;obtain⟨n,ls,ar,cs⟩:=a;dsimp only at hat' hxl hwt hin hti harc hcs hct hal htt|-;refine kE Tryz.func20 ?_;intro hat B X w0;refine kw1 kO kc0 (kc2 hv hf) ?_;refine Zae (λ(k:Nat)=>k<=ar.length) (λ k=>[(1, .d (Zab x)),(2, .ptr 2 0 0 0),(5, .int (S k)),(6, .int k)]) (λ k=>[(2, .cells [.int n, .d (Zag ls), .d (Zal ar), .d (Zag cs)])]) (λ k=>ar.length-k) 0 ?_ ?_ ?_
 ·exact uG _
 ·exact kN (kc1 hcz) []
 ·intro k hk;have hsk:=hin k hk;rcases uC k ar.length with hlt|hge
  ·obtain⟨⟨p,q⟩,he⟩:=Zac hlt;have hm:=uA he;have ha:=harc _ hm;dsimp only at ha;obtain⟨p,rfl⟩:∃p':Nat,p=p':=⟨p.toNat,by omega⟩;obtain⟨q,rfl⟩:∃q':Nat,q=q':=⟨q.toNat,by omega⟩;have g1:=hat' p ha.1.1 ha.1.2;have g2:=hat' q ha.2.1 ha.2.2;rw[uK]at g1 g2;obtain⟨g1,b1⟩:=g1;obtain⟨g2,b2⟩:=g2;have hw1:=hwt ((p:Int),(q:Int));have hs:=hcs k _ he;have ht:=hti _ hm;have hc2:=hct ((p:Int),(q:Int));have hwi:=ZoX n ((p:Int),(q:Int));have hs2:=hin (k+1) hlt;revert hw1 hs ht hc2 hwi g1 g2 b1 b2;dsimp only;generalize ZcX n ((p:Int),(q:Int))=wg;generalize T ((p:Int),(q:Int))=tv;generalize at0 x (p:Int)=xp;generalize at0 x (q:Int)=xq;intro g1 b1 g2 b2 hw1 hs ht hc2 hwi;have hneg:(if xp<xq then xq else xp)-(if xq<xp then xq else xp)=ZfN (xp-xq):=by rw[ZfN];omega
   have hc3:wg*ZfN (xp-xq)=tv:=hc2.symm;refine kw1 kO (kc5 he g1 g2 hneg hc3) (kc1 hw1) ?_;refine⟨k+1,?_,kN (kc1 hs) [],?_⟩
   ·omega
   ·omega
  ·have hk:k=ar.length:=by omega
   subst hk;refine kw1 kO kc0 kc0 ?_;exact rfl
def ZhF (x:List Int)(q:Bd):Bool:=decide (at0 x q.2.1-at0 x q.1<q.2.2.1)
def Zp4 (a:Lv)(ws:List Int)(sep:Int)(x:List Int):Int:=if Zcy a ws sep then(if Zd3 a x then(if(Zbr ws sep a.2.1 a.2.1.length).any (ZhF x)then 14 else 0)else 3)else 1
theorem ZAO (a:Lv)(ws:List Int)(sep:Int)(x:List Int)(hw:wide a)(h:Zcy a ws sep=false):Zaa Tryz.prog 19 [lvD a,Zab ws, .int sep,Zab x] (.int 1):=by
 have hv:=ZlL a ws sep hw;rw[h]at hv;refine kE Tryz.func19 ?_;intro hat B X w0;refine kw1 kO kc0 (kc1 hv) ?_;exact rfl
theorem ZAQ (a:Lv)(ws:List Int)(sep:Int)(x:List Int)(hw:wide a)(h:VA a ws sep)(hf:Zd3 a x=false):Zaa Tryz.prog 19 [lvD a,Zab ws, .int sep,Zab x] (.int 3):=by
 have hv:=ZlL a ws sep hw;rw[h.ok]at hv;have hx:=ZlG a x (by have:=h.tt;omega);rw[hf]at hx;refine kE Tryz.func19 ?_;intro hat B X w0;refine kw1 kO kc0 (kc2 hv hx) ?_;exact rfl
theorem ZAP (a:Lv)(ws:List Int)(sep:Int)(x:List Int)(hw:wide a)(h:VA a ws sep)(hfa:Zd3 a x=true):Zaa Tryz.prog 19 [lvD a,Zab ws, .int sep,Zab x] (.int (if(Zbr ws sep a.2.1 a.2.1.length).any (ZhF x)then 14 else 0)):=by
 have hv:=ZlL a ws sep hw;rw[h.ok]at hv;have hx:=ZlG a x (by have:=h.tt;omega);rw[hfa]at hx;have hF:=Fits.of hfa;have hat':=hF.at';have hxl:=hF.len;have htt:=h.tt;have hl:=h.ls;have hvt:=h.vert;have hds:=ZsY h;have hap:=Zjj h;have hmem:∀k y,k<a.2.1.length->y∈Zbr ws sep a.2.1 (k+1)->y∈Zbr ws sep a.2.1 a.2.1.length:=λ k y hk hy=>by
  obtain⟨i,h1,h2⟩:=ZhY.1 hy;exact ZhY.2 ⟨i,by omega,h2⟩
 obtain⟨n,ls,ar,cs⟩:=a;dsimp only at hat' hxl htt hl hvt hmem|-;refine kE Tryz.func19 ?_;intro hat B X w0;refine kw1 kO kc0 (kc2 hv hx) ?_;refine Zae (λ(i:Nat)=>i<=ls.length/\∀q,q∈Zbr ws sep ls i->ZhF x q=false) (λ i=>[(1, .d (Zab ws)),(2, .int sep),(3, .d (Zab x)),(4, .ptr 4 0 0 0),(9, .int i)]) (λ i=>[(4, .cells [.int n, .d (Zag ls), .d (Zal ar), .d (Zag cs)])]) (λ i=>ls.length-i) 0 ?_ ?_ ?_
 ·exact⟨uG _,λ q hq=>by simp[Zbr,Za5]at hq⟩
 ·exact kN kc0 []
 ·rintro i ⟨hi,hinv⟩;rcases uC i ls.length with hlt|hge
  ·obtain⟨y,hy⟩:=Zac hlt;have hyv:=hvt y (uA hy);have hyl:=Zde (uA hy);refine kw1 kO (kc1 hy) kc0 ?_;refine Zae (λ(j:Nat)=>1<=j/\j-1<=y.length-1/\∀q,q∈Zdt ws sep ls i y j->ZhF x q=false) (λ j=>[(1, .d (Zab ws)),(2, .int sep),(3, .d (Zab x)),(4, .ptr 4 0 0 0),(9, .int i),(10, .int j)]) (λ j=>[(4, .cells [.int n, .d (Zag ls), .d (Zal ar), .d (Zag cs)])]) (λ j=>y.length-j) 1 ?_ ?_ ?_
   ·exact⟨uI _,by omega,λ q hq=>hinv q (by rwa [ZmS]at hq)⟩
   ·exact kN kc0 []
   ·rintro j ⟨hj1,hj,hinv2⟩;rcases uC j y.length with hjl|hjl
    ·obtain⟨u,k1⟩:=Zac (show j-1<y.length by omega);obtain⟨v,k2⟩:=Zac hjl;have i1:=hyv _ (uA k1);have i2:=hyv _ (uA k2);obtain⟨u,rfl⟩:∃p':Nat,u=p':=⟨u.toNat,by omega⟩;obtain⟨v,rfl⟩:∃p':Nat,v=p':=⟨v.toNat,by omega⟩;have g1:=hat' u i1.1 i1.2;have g2:=hat' v i2.1 i2.2;rw[uK]at g1 g2;obtain⟨g1,b1⟩:=g1;obtain⟨g2,b2⟩:=g2;have e1:(j:Int)-1=(j-1:Nat):=by omega
     have hd:=hds u v i1.1 i2.1;have hp:=ZmT (ws:=ws) (sep:=sep) (ls:=ls) (k:=i) hj1 k1 k2;have hq:=hap u v;have hb:ZhF x ((u:Int),(v:Int),apF ws sep u v,0)=decide (at0 x (v:Int)-at0 x (u:Int)<apF ws sep u v):=rfl;have hall:((u:Int),(v:Int),apF ws sep u v,(0:Int))∈Zbr ws sep ls ls.length:=by
      refine hmem i _ hlt ?_;rw[Zmk hy,yO]
      right
      rw[prN,uP];refine⟨j-1,yA.2 (by omega),?_⟩;have:=ZsG (ws:=ws) (sep:=sep) hj1 k1 k2;obtain⟨i',rfl⟩:∃i',j=i'+1:=⟨j-1,by omega⟩;rw[ZsH,zU]at this;exact List.singleton_inj.1 (List.append_cancel_left this)
     revert g1 b1 g2 b2 hb;generalize at0 x (u:Int)=xu;generalize at0 x (v:Int)=xv;intro g1 b1 g2 b2 hb;by_cases c:xv-xu<apF ws sep u v
     ·rw[show((Zbr ws sep ls ls.length).any (ZhF x))=true from gK.2 ⟨_,hall,by rw[hb];exact yB c⟩,if_pos rfl];refine kw1 kO (kc7 hy e1 k1 k2 g1 g2 c) (kc1 hd) ?_;exact rfl
     ·refine kw1 kO (kc7 hy e1 k1 k2 g1 g2 c) (kc1 hd) ?_;refine⟨j+1,?_,kN kc0 [],?_⟩
      ·refine⟨by omega,by omega,λ q hq=>?_⟩;rw[hp,yO,uT]at hq;rcases hq with hq|rfl
       ·exact hinv2 q hq
       ·rw[hb];exact uU c
      ·omega
    ·have hj:j-1=y.length-1:=by omega
     have hs:=ZmR (ws:=ws) (sep:=sep) hy hj;refine kw1 kO (kc1 hy) kc0 ?_;refine⟨i+1,?_,kN kc0 [],?_⟩
     ·exact⟨by omega,λ q hq=>hinv2 q (by rwa [hs]at hq)⟩
     ·omega
  ·have hi:i=ls.length:=by omega
   subst hi;rw[show((Zbr ws sep ls ls.length).any (ZhF x))=false from qA.2 λ q hq=>by rw[hinv q hq];decide,if_neg (by decide)];refine kw1 kO kc0 kc0 ?_;exact rfl
theorem rCheck_spec (a:Lv)(ws:List Int)(sep:Int)(x:List Int)(hw:wide a):Zaa Tryz.prog 19 [lvD a,Zab ws, .int sep,Zab x] (.int (Zp4 a ws sep x)):=by
 rw[Zp4];rcases h:Zcy a ws sep with _|_
 ·rw[if_neg (by decide)];exact ZAO a ws sep x hw h
 ·rw[if_pos rfl];rcases hf:Zd3 a x with _|_
  ·rw[if_neg (by decide)];exact ZAQ a ws sep x hw (.of h) hf
  ·rw[if_pos rfl];exact ZAP a ws sep x hw (.of h) hf
theorem rCost_spec (a:Lv)(x:List Int)(hw:wide a)(hal:a.2.2.1.length<=1000):Zaa Tryz.prog 20 [lvD a,Zab x] (.int (Zp9 a x)):=by
 rw[Zp9];rcases h:Zaw a&&Zd3 a x with _|_
 ·rw[if_neg (by decide)];exact ZAR a x hw h
 ·rw[if_pos rfl];rw[uM]at h;exact ZAS a x hw h.1 h.2 hal
end Go.Proofs.YtjjbhjnpeenbkaaGreatDoor.Al
namespace Go.Proofs.YtjjbhjnpeenbkaaGreatDoor.Al
open Go Go.PS Go.Proofs
open Sx (Bd bdD Zbx Net nD ZfZ Zgv ZbV ZjN ZjM Zls)
set_option maxRecDepth 100000
attribute [local irreducible] Zad wpG Zaa Zah
def Zdg (r:List Int)(k:Nat):List (Int×Int):=(List.range k).map λ v:Nat=>((v:Int),at0 r v)
theorem Zy8 (r:List Int)(k:Nat):(Zdg r k).length=k:=by simp[Zdg]
theorem Zza (r:List Int):Zdg r 0=[]:=rfl
theorem Zy7 {r:List Int}{k j:Nat}(h:j<k):(Zdg r k).getD j (0,0)=((j:Int),at0 r j):=by
 rw[gZ,Zdg,uJ,qC h];rfl
theorem ZsK {x y:Int}:∀{l:List (Int×Int)},(∀p,p∈l->p.1≠x)->Zd9 l x y=l++[(x,y)]
 |[],_=>rfl
 |(a,b)::l,h=>by
  rw[Zd9,if_neg (show¬a=x from h (a,b) (by simp)),ZsK (l:=l) (λ p hp=>h p (uN _ hp))];rfl
theorem Zy9 (r:List Int)(k:Nat):Zd9 (Zdg r k) (k:Int) (at0 r k)=Zdg r (k+1):=by
 rw[ZsK]
 ·simp[Zdg,qP]
 ·intro p hp;obtain⟨v,hv,rfl⟩:=uP.1 hp;have:=yA.1 hv;dsimp only;omega
theorem ZqU {x y:Int}:∀{l m:List (Int×Int)},(∀p,p∈l->p.1≠x)->Zbi (l++(x,y)::m) x=y
 |[],_,_=>by simp[Zbi]
 |(a,b)::l,m,h=>by
  rw[gX,Zbi,if_neg (show¬a=x from h (a,b) (by simp)),ZqU (l:=l) (λ p hp=>h p (uN _ hp))]
theorem ZrX {r:List Int}:∀{k v:Nat},v<k->Zbi (Zdg r k) (v:Int)=at0 r v
 |0,v,h=>by omega
 |k+1,v,h=>by
  have key:∀(l m:List (Int×Int)),(∃p,p∈l/\p.1=(v:Int))->Zbi (l++m) (v:Int)=Zbi l (v:Int):=by
   intro l m
   induction l with
   |nil=>rintro⟨p,hp,_⟩;simp at hp
   |cons q l ih=>
    rintro⟨p,hp,h2⟩;obtain⟨a,b⟩:=q;rw[gX,Zbi,Zbi];by_cases c:a=(v:Int)
    ·rw[if_pos c,if_pos c]
    ·rw[if_neg c,if_neg c];rcases yD.1 hp with rfl|hp
     ·exact absurd h2 c
     ·exact ih ⟨p,hp,h2⟩
  have e:Zdg r (k+1)=Zdg r k++[((k:Int),at0 r k)]:=by simp[Zdg,qP]
  rcases qB.1 h with h1|rfl
  ·rw[e,key (Zdg r k) [((k:Int),at0 r k)] ⟨((v:Int),at0 r v),uP.2 ⟨v,yA.2 h1,rfl⟩,rfl⟩,ZrX h1]
  ·rw[e,ZqU];intro p hp;obtain⟨u,hu,rfl⟩:=uP.1 hp;have:=yA.1 hu;dsimp only;omega
def Zf2 (r:List Int)(T:Nat):Int:=ZbV (λ v:Nat=>at0 r v) T
def Zm6 (r:List Int)(T:Nat):List Int:=(List.range T).map λ v:Nat=>at0 r v-Zf2 r T
def Zii (r:List Int)(sn:List Nat)(m:Int):Prop:=(sn=[]->m=0)/\(sn≠[]->(∃j,j∈sn/\m=at0 r j)/\∀j,j∈sn->m<=at0 r (j:Nat))
theorem Zii.step {r:List Int}{sn:List Nat}{m:Int}(h:Zii r sn m)(j:Nat):Zii r (sn++[j]) (if sn=[]\/at0 r j<m then at0 r j else m):=by
 refine⟨λ h=>by simp at h,λ _=>?_⟩;by_cases c:sn=[]
 ·subst c;rw[if_pos (.inl rfl)];exact⟨⟨j,by simp,rfl⟩,λ i hi=>by simp at hi;subst hi;omega⟩
 ·obtain⟨⟨i,hi,e⟩,h2⟩:=h.2 c;split
  ·rename_i hc;refine⟨⟨j,by simp,rfl⟩,λ u hu=>?_⟩;rw[yO,uT]at hu;rcases hu with hu|rfl
   ·have:=h2 u hu;rcases hc with hc|hc
    ·exact absurd hc c
    ·omega
   ·omega
  ·rename_i hc;refine⟨⟨i,by simp[hi],e⟩,λ u hu=>?_⟩;rw[yO,uT]at hu;rcases hu with hu|rfl
   ·exact h2 u hu
   ·omega
theorem Zii.all {r:List Int}{sn:List Nat}{m:Int}{T:Nat}(h:Zii r sn m)(h1:∀j,j<T->j∈sn)(h2:∀j,j∈sn->j<T):m=Zf2 r T:=by
 rcases qU T with rfl|h0
 ·have:sn=[]:=List.eq_nil_iff_forall_not_mem.2 λ j hj=>by have:=h2 j hj;omega
  rw[h.1 this];rfl
 ·have hne:sn≠[]:=λ e=>by have:=h1 0 h0;rw[e]at this;simp at this
  obtain⟨⟨j,hj,e⟩,h3⟩:=h.2 hne;have a1:m<=Zf2 r T:=ZjM h0 λ v hv=>h3 v (h1 v hv)
  have a2:Zf2 r T<=at0 r j:=ZjN (h:=λ v:Nat=>at0 r v) (h2 j hj);omega
theorem ZkD (a:Lv)(ws:List Int)(sep:Int)(r:List Int)(hw:wide a)(h:VA a ws sep)(hal:a.2.2.1.length<=1000)
  (hB:Zah Tryz.prog 58 [.d (nD (Zf3 a ws sep))] [(2000, .dead)] (.tup [.ref 2000 1 0 r.length r.length, .int 0]) [(2000, .row 1 (r.map D.int))])
  (hrl:tot a.2.1<=r.length)(hrb:∀v:Nat,v<r.length->0<=at0 r v/\at0 r v<=34359738368):
  Zaa Tryz.prog 17 [lvD a,Zab ws, .int sep] (.tup [Zab (Zm6 r (tot a.2.1)), .int 0]):=by
 have hn:=ZuR a ws sep hw h hal;have hvx:=Zus a (by have:=h.tt;omega);have htt:=h.tt;obtain⟨N,hN⟩:∃N,N=Zf3 a ws sep:=⟨_,rfl⟩;rw[<-hN]at hn hB;obtain⟨N1,N2⟩:=N;obtain⟨n,ls,ar,cs⟩:=a;dsimp only at hvx htt hrl|-;generalize tot ls=T at hvx htt hrl|-;have hml:(r.map D.int).length=r.length:=uD _;refine kE Tryz.func17 ?_;intro hat B X w0;refine kw1 kO kc0 (kc3 hn hvx (kmc [(2000,900)] hB)) ?_;refine Zae (λ(k:Nat)=>k<=T) (λ k=>[(3, .ptr 3 0 0 0),(10, .ref 900 1 0 r.length r.length),(11, .mp 37),(39, .int T),(40, .int k)]) (λ k=>[(3, .cells [.int n, .d (Zag ls), .d (Zal ar), .d (Zag cs)]),(900, .row 1 (r.map D.int)),(37, .imap (Zdg r k))]) (λ k=>T-k) 0 ?_ ?_ ?_
 ·exact uG _
 ·exact kN (kc1 @Zza) []
 ·intro k hk;rcases uC k T with hlt|hge
  ·have hg:=at0_at (r:=r) (i:=k) (by omega);have hp:=Zy9 r k;revert hg hp;generalize at0 r (k:Int)=rk;intro hg hp;refine kw1 kO (kc3 hg hp hml) kc0 ?_;refine⟨k+1,?_,kN (kc1 hp) [],?_⟩
   ·omega
   ·omega
  ·have hk:k=T:=by omega
   subst hk;have hMl:=Zy8 r k;refine kw1 kO (kc1 hMl) kc0 ?_;refine Zae (λ(q:List Nat×Int)=>Zii r q.1 q.2/\q.1.Nodup/\∀j,j∈q.1->j<k) (λ q=>[(11, .mp 37),(13, .int q.2),(14, .bool (!q.1.isEmpty)),(51, .ptr 51 1 0 0)]) (λ q=>[(37, .imap (Zdg r k)),(51, .iter 37 k q.1)]) (λ q=>k-q.1.length) ([],(0:Int)) ?_ ?_ ?_
   ·exact⟨⟨λ _=>rfl,λ h=>absurd rfl h⟩,zF,by simp⟩
   ·exact kN (kc2 hMl @List.isEmpty_nil.{0}) []
   ·rintro⟨sn,m⟩ ⟨hmin,hnd,hlt⟩;dsimp only at hmin hnd hlt|-;have hln:=Zls k sn hnd hlt;refine ZbH rfl ?_;refine ZAG (i:=51) (o:=51) (m:=37) (k:=k) (sn:=sn) (l:=Zdg r k) rfl rfl rfl hMl (Aq rfl) (Aq rfl) (λ hall=>?_) (λ j hj hjn=>?_)
    ·have hm:=hmin.all hall hlt;subst hm;obtain⟨F,hF⟩:∃F:Nat->List Int,F=λ u=>Za9 (λ v:Nat=>at0 r v-Zf2 r k) k u:=⟨_,rfl⟩
     have hfz:∀u:Nat,(F u).length=k:=λ u=>by rw[hF];exact Zdw _ k u
     have hf0:(F 0).map D.int=List.replicate k (D.int 0):=by rw[hF];exact ZhR _ k
     have hfe:F k=Zm6 r k:=by rw[hF];exact ZhP _ k
     have hfs:∀u:Nat,u<k->((F u).map D.int).set u (D.int (at0 r u-Zf2 r k))=(F (u+1)).map D.int:=λ u hu=>by simp only[hF];rw[<-ZhQ hu,yR]
     have hlow:k=0\/(0<=Zf2 r k/\Zf2 r k<=34359738368):=by
      rcases qU k with h0|h0
      ·exact .inl h0
      ·refine .inr ⟨ZjM h0 λ v hv=>(hrb v (by omega)).1,?_⟩;have:=ZjN (h:=λ v:Nat=>at0 r v) h0;have h2:=(hrb 0 (by omega)).2;exact zC this h2
     refine kw1 kO (kc1 hMl) kc0 ?_;refine Zae (λ(u:Nat)=>u<=k) (λ u=>[(11, .mp 37),(13, .int (Zf2 r k)),(17, .ref 66 1 0 k k),(68, .int k),(69, .int u)]) (λ u=>[(37, .imap (Zdg r k)),(66, .row 1 ((F u).map D.int))]) (λ u=>k-u) 0 ?_ ?_ ?_
     ·exact uG _
     ·exact kN (kc1 hf0) []
     ·intro u hu;have hfl:=hfz u;rcases uC u k with hlt2|hge2
      ·have hg:=ZrX (r:=r) hlt2;have hsm:=hfs u hlt2;obtain⟨od,hod⟩:=Zac (show u<(F u).length by omega);have hb1:=hrb u (by omega);have hb2:=hlow.resolve_left (by omega);have hfl2:=hfz (u+1);revert hg hsm hb1 hb2;generalize Zf2 r k=lw;generalize at0 r (u:Int)=ru;intro hg hsm hb1 hb2;refine kw1 kO (kc5 hMl hg hsm hfl hod) kc0 ?_;refine⟨u+1,?_,kN (kc1 hsm) [],?_⟩
       ·omega
       ·omega
      ·have hu:u=k:=by omega
       subst hu;refine kw1 kO kc0 kc0 ?_;exact⟨_,rfl,Zch (o:=66) rfl rfl (by simp[hfl]) (by rw[uE (by simp[hfl]),hfe]),Zaf rfl,trivial⟩
    ·have hst:=hmin.step j;have hgl:(sn++[j]).getLast?=some j:=by simp
     have hgd:=Zy7 (r:=r) hj;have hie:(sn++[j]).isEmpty=false:=by simp
     have hnd':(sn++[j]).Nodup:=by
      rw[kV];exact⟨hnd,by simp,by intro x hx y hy;rw[uT]at hy;subst hy;rintro rfl;exact hjn hx⟩
     have hlt':∀i,i∈sn++[j]->i<k:=λ i hi=>by
      rw[yO,uT]at hi;rcases hi with hi|rfl
      ·exact hlt i hi
      ·exact hj
     have hln':=Zls k _ hnd' hlt';rw[uH,yL]at hln';revert hst hgd;generalize at0 r (j:Int)=rj;intro hst hgd;rcases hse:sn.isEmpty with _|_
     ·have hne:sn≠[]:=by rintro rfl;cases hse
      by_cases c:rj<m
      ·rw[if_pos (.inr c)]at hst;refine kw1 kO (kc6 hMl hgl hgd hse c @Bu) kc0 ?_;refine⟨(sn++[j],rj),?_,kN (kc1 hie) [],?_⟩
       ·exact⟨hst,hnd',hlt'⟩
       ·dsimp only;rw[uH,yL];omega
      ·rw[if_neg (by rintro(h|h);exact hne h;exact c h)]at hst;refine kw1 kO (kc6 hMl hgl hgd hse c @Bu) kc0 ?_;refine⟨(sn++[j],m),?_,kN (kc1 hie) [],?_⟩
       ·exact⟨hst,hnd',hlt'⟩
       ·dsimp only;rw[uH,yL];omega
     ·have he:sn=[]:=Ag.1 hse;rw[if_pos (.inl he)]at hst;refine kw1 kO (kc5 hMl hgl hgd hse @Cu) kc0 ?_;refine⟨(sn++[j],rj),?_,kN (kc1 hie) [],?_⟩
      ·exact⟨hst,hnd',hlt'⟩
      ·dsimp only;rw[uH,yL];omega
end Go.Proofs.YtjjbhjnpeenbkaaGreatDoor.Al
namespace Go.Proofs.YtjjbhjnpeenbkaaGreatDoor.Al
open Go Go.PS Go.Proofs
open Sx (Bd bdD Zbx Net nD ZfZ Zgv ZbV ZjN ZjM)
set_option maxRecDepth 100000
attribute [local irreducible] Zad wpG Zaa Zah
end Go.Proofs.YtjjbhjnpeenbkaaGreatDoor.Al
