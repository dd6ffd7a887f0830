/- Vertices, widths, weights, validity. -/
import Derived.Test.YtjjbhjnpeenbkaaGreatDoorG
import Derived.Test.YtjjbhjnpeenbkaaGreatDoorO
import Derived.Test.YtjjbhjnpeenbkaaGreatDoorSxA
import Derived.Test.YtjjbhjnpeenbkaaGreatDoorSxZ
import Derived.Test.YtjjbhjnpeenbkaaGreatDoorPSNext
import Derived.Test.YtjjbhjnpeenbkaaGreatDoorSxL
set_option linter.unusedSimpArgs false
set_option linter.unusedVariables false
set_option maxHeartbeats 16000000
namespace Go.Proofs.YtjjbhjnpeenbkaaGreatDoor.Al
open Go Go.PS Go.Proofs
set_option maxRecDepth 100000
attribute [local irreducible] Zad wpG Zaa Zag
theorem Zpt (a:Lv)(h:tot a.2.1<=1000000):Zaa Tryz.prog 59 [lvD a] (.int (tot a.2.1)):=by
 obtain⟨n,ls,ar,cs⟩:=a;dsimp only at h;refine kE Tryz.func59 ?_;intro hat B X w0;have h1:=Zcf 0 1 hat rfl rfl;rw[uC]at h1;dsimp only at h1;refine kw1 kO kc0 kc0 ?_;refine Zaf (λ(k:Nat)=>k<=ls.length) (λ k=>[(3, .int (tot (ls.take k))),(7, .d (Zae ls)),(8, .int ls.length),(9, .int k)]) (λ k=>[]) (λ k=>ls.length-k) 0 ?_ ?_ ?_
 ·exact uH _
 ·exact kN kc0 []
 ·intro k hk;rcases uE k ls.length with hlt|hge
  ·obtain⟨y,hy⟩:=Zac hlt;have e:=ZkI hy;have h2:=Zjr ls (k+1);have e2:((tot (ls.take k):Nat):Int)+y.length=(tot (ls.take (k+1)):Nat):=by omega
   refine kw1 kO (kc2 hy e2) kc0 ?_;refine⟨k+1,?_,kN kc0 [],?_⟩
   ·omega
   ·omega
  ·have hk:k=ls.length:=by omega
   subst hk;rw[yE];refine kw1 kO kc0 kc0 ?_;exact rfl
def Zfk (n:Int)(x:Arc):Int:=if n<=x.1/\n<=x.2 then 8 else if n<=x.1\/n<=x.2 then 2 else 1
theorem ZFE (a:Lv)(x:Arc):Zaa Tryz.prog 115 [lvD a,Za0 x] (.int (Zfk a.1 x)):=by
 obtain⟨n,ls,ar,cs⟩:=a;refine kE Tryz.func115 ?_;intro hat B X w0;refine kw kO kc0 kc0 ?_
 repeat' first|exact True.intro|refine Bn.mk ?_ ?_|intro hc
 all_goals
  refine Zai ?_;rw[Zfk]
  repeat' split
  all_goals omega
def Zd1 (ws:List Int)(v:Int):Int:=if v<ws.length then at0 ws v else 0
theorem ZvA (ws:List Int)(v:Int)(h0:0<=v):Zaa Tryz.prog 117 [Zab ws, .int v] (.int (Zd1 ws v)):=by
 refine kE Tryz.func117 ?_;intro hat B X w0;have h1:=ZaJ 0 hat rfl;rw[uC]at h1;by_cases c:v<ws.length
 ·have hg:=ZdK h0 c;obtain⟨n,rfl⟩:∃n:Nat,v=n:=⟨v.toNat,by omega⟩;rw[uM]at hg;refine kw1 kO (kc1 hg) kc0 ?_;refine Zai ?_;rw[Zd1,if_pos c]
 ·refine kw1 kO kc0 kc0 ?_;refine Zai ?_;rw[Zd1,if_neg c]
def szB (n:Int):Bool:=decide (0<=n/\n<=1048576)
theorem Zkz (n:Int):Zaa Tryz.prog 116 [.int n] (.bool (szB n)):=by
 refine kE Tryz.func116 ?_;intro hat B X w0;refine kw kO kc0 kc0 ?_
 repeat' first|exact True.intro|refine Bn.mk ?_ ?_|intro hc
 all_goals
  refine Zah ?_;simp[szB];omega
def ZeS (a:Lv)(ws:List Int)(sep:Int):Bool:=Zar a&&decide ((ws.length:Int)=a.1)&&szB sep&& !ws.any λ w=> !szB w
theorem ZFw (a:Lv)(ws:List Int)(sep:Int)(hw:wide a):Zaa Tryz.prog 60 [lvD a,Zab ws, .int sep] (.bool (ZeS a ws sep)):=by
 have hv:=Zgh a hw;have hs:=Zkz sep;rcases hva:Zar a with _|_
 ·rw[hva]at hv;refine kE Tryz.func60 ?_;intro hat B X w0;have h1:=ZaJ 1 hat rfl;rw[uC]at h1;refine kw1 kO kc0 (kc1 hv) ?_;refine Zah ?_;rw[ZeS,hva];rfl
 rw[hva]at hv;rcases hsa:szB sep with _|_
 ·rw[hsa]at hs;refine kE Tryz.func60 ?_;intro hat B X w0;have h1:=ZaJ 1 hat rfl;rw[uC]at h1;refine kw kO kc0 (kc2 hv hs) ?_
  repeat' first|exact True.intro|refine Bn.mk ?_ ?_|intro hc
  all_goals
   refine Zah ?_;rw[ZeS,hsa];simp
 rw[hsa]at hs;by_cases hl:(ws.length:Int)=a.1
 ·have hh:=(ZkJ hva).1;simp only[ZfY,uF]at hh;have e:ZeS a ws sep= !ws.any λ w=> !szB w:=by simp[ZeS,hva,hsa,hl]
  rw[e];refine kE Tryz.func60 ?_;intro hat B X w0;refine kw1 kO (kc1 hl) (kc2 hv hs) ?_;refine Zaf (λ(k:Nat)=>k<=ws.length/\∀(j:Nat) y,j<k->ws[j]? =some y->(!szB y)=false) (λ k=>[(24, .d (Zab ws)),(25, .int ws.length),(26, .int k)]) (λ k=>[]) (λ k=>ws.length-k) 0 ?_ ?_ ?_
  ·exact⟨uH _,λ j y h=>by omega⟩
  ·exact kN kc0 []
  ·rintro k ⟨hk,hinv⟩;rcases uE k ws.length with hlt|hge
   ·obtain⟨y,hy⟩:=Zac hlt;have hz:=Zkz y;rcases hzy:szB y with _|_
    ·rw[hzy]at hz;refine kw1 kO (kc1 hy) (kc1 hz) ?_;refine Zah ?_;rw[ZcE hy (by simp[hzy])];rfl
    ·rw[hzy]at hz;refine kw1 kO (kc1 hy) (kc1 hz) ?_;refine⟨k+1,?_,kN kc0 [],?_⟩
     ·exact⟨by omega,Zbr hinv hy (by simp[hzy])⟩
     ·omega
   ·refine kw1 kO kc0 kc0 ?_;refine Zah ?_;rw[Zc2 (λ j y hj=>hinv j y (by omega))];rfl
 ·refine kE Tryz.func60 ?_;intro hat B X w0;have h1:=ZaJ 1 hat rfl;rw[uC]at h1;refine kw1 kO (kc1 hl) (kc2 hv hs) ?_;refine Zah ?_;simp[ZeS,hl]
open Sx (Bd bdD Zcn Net nD)
structure VA (a:Lv)(ws:List Int)(sep:Int):Prop where
 ok:ZeS a ws sep=true
 v:Zar a=true
 n:0<=a.1/\a.1<=64
 len:(ws.length:Int)=a.1
 tt:tot a.2.1<=512
 ls:a.2.1.length<=256
 sep:0<=sep/\sep<=1048576
 ws:∀w,w∈ws->0<=w/\w<=1048576
 vert:∀y,y∈a.2.1->∀x,x∈y->0<=x/\x<tot a.2.1
 nodup:a.2.1.flatten.Nodup
 arcs:∀x,x∈a.2.2.1->(0<=x.1/\x.1<tot a.2.1)/\0<=x.2/\x.2<tot a.2.1
theorem ZFx {a:Lv}(h:Zar a=true):a.2.1.length<=256/\tot a.2.1<=512/\(∀y,y∈a.2.1->∀x,x∈y->0<=x/\x<tot a.2.1)/\a.2.1.flatten.Nodup:=by
 obtain⟨_,_,hr⟩:=Zgf h;obtain⟨h1,h2,h3,_⟩:=Zhj hr;rw[Zgv]at h3;exact⟨h1,h2,λ y hy x hx=>h3.1 x (zK.2 ⟨y,hy,hx⟩),h3.2⟩
theorem Zib {α:Type}{g:Nat->List α}{x:α}:∀{n:Nat},x∈Za2 g n↔∃k,k<n/\x∈g k
 |0=>by simp[Za2]
 |n+1=>by
  rw[Za2,yK,Zib];constructor
  ·rintro(⟨k,h1,h2⟩|h)
   ·exact⟨k,by omega,h2⟩
   ·exact⟨n,by omega,h⟩
  ·rintro⟨k,h1,h2⟩;rcases yY.1 h1 with h|rfl
   ·exact .inl ⟨k,h,h2⟩
   ·exact .inr h2
theorem ZFs {a:Lv}(h:Zar a=true):∀x,x∈a.2.2.1->(0<=x.1/\x.1<tot a.2.1)/\0<=x.2/\x.2<tot a.2.1:=by
 obtain⟨b,hm,hr⟩:=Zgf h;have e1:a.2.2.1=ZaV (ZaL a) (ZaE a).2 (ZaE a).2.length:=qU (λ x:Lv=>x.2.2.1) hm;have e2:tot a.2.1=(Zas (ZaL a) (ZaE a).2 (ZaE a).2.length).length:=by
  obtain⟨_,_,_,h4⟩:=Zhj hr;rw[h4,Zel]
 rw[e1,e2];intro x hx;obtain⟨e,he,hx⟩:=Zib.1 hx;obtain⟨y,hy⟩:=Zac he;rw[ZiD,hy]at hx;obtain⟨j,hj,rfl⟩:=uP.1 hx;have hj:=uZ.1 hj;have c1:=b.chain_at hy (j:=j) (by omega);have c2:=b.chain_at hy (j:=j+1) (by omega);exact⟨⟨c1.1,c1.2.1⟩,c2.1,c2.2.1⟩
theorem VA.of {a:Lv}{ws:List Int}{sep:Int}(h:ZeS a ws sep=true):VA a ws sep:=by
 have h0:=h;simp only[ZeS,uL,uF,yC,szB]at h;obtain⟨⟨⟨h1,h2⟩,h3⟩,h4⟩:=h;have hh:=(ZkJ h1).1;simp only[ZfY,uF]at hh;obtain⟨g1,g2,g3,g4⟩:=ZFx h1;refine⟨h0,h1,⟨hh.1,hh.2.1⟩,h2,g2,g1,h3,λ w hw=>?_,g3,g4,ZFs h1⟩;have:=yS.1 h4 w hw;simpa using this
def apF (ws:List Int)(sep u v:Int):Int:=(Zd1 ws u+Zd1 ws v+1)/2+sep
theorem ZhF {a:Lv}{ws:List Int}{sep:Int}(h:VA a ws sep)(v:Int):0<=Zd1 ws v/\Zd1 ws v<=1048576:=by
 rw[Zd1];split
 ·rename_i hv;rw[at0];cases hx:ws[v.toNat]? with
  |none=>simp
  |some w=>exact h.ws w (uA hx)
 ·omega
theorem Zk3 {a:Lv}{ws:List Int}{sep:Int}(h:VA a ws sep)(u v:Int):0<=apF ws sep u v/\apF ws sep u v<=2097153:=by
 have:=ZhF h u;have:=ZhF h v;have:=h.sep;rw[apF];omega
def Zl3 (ws:List Int)(sep:Int)(x:List Int)(j:Nat):Bd:=(at0 x (j:Int),at0 x ((j+1:Nat):Int),apF ws sep (at0 x (j:Int)) (at0 x ((j+1:Nat):Int)),0)
def prN (ws:List Int)(sep:Int)(x:List Int)(k:Nat):List Bd:=(List.range k).map (Zl3 ws sep x)
theorem ZB1 (ws:List Int)(sep:Int)(x:List Int)(k:Nat):prN ws sep x (k+1)=prN ws sep x k++[Zl3 ws sep x k]:=by simp[prN,qN]
theorem ZB0 {ws:List Int}{sep:Int}{x:List Int}{j:Nat}{u v:Int}(h1:1<=j)(hu:x[j-1]? =some u)(hv:x[j]? =some v):prN ws sep x j=prN ws sep x (j-1)++[(u,v,apF ws sep u v,0)]:=by
 obtain⟨i,rfl⟩:∃i,j=i+1:=⟨j-1,by omega⟩;rw[Am]at hu|-;rw[ZB1,Zl3];have e1:at0 x (i:Int)=u:=by rw[at0,uM,hu];rfl
 have e2:at0 x ((i+1:Nat):Int)=v:=by rw[at0,uM,hv];rfl
 rw[e1,e2]
theorem ZtJ (ws:List Int)(sep:Int)(x:List Int)(k:Nat):(prN ws sep x k).length=k:=by simp[prN]
def prL (ws:List Int)(sep:Int)(ls:List (List Int))(i:Nat):List Bd:=match ls[i]? with
 |some x=>prN ws sep x (x.length-1)
 |none=>[]
def Zb6 (ws:List Int)(sep:Int)(ls:List (List Int))(k:Nat):List Bd:=Za2 (prL ws sep ls) k
theorem Zp2 {ws:List Int}{sep:Int}{ls:List (List Int)}{k:Nat}{x:List Int}(h:ls[k]? =some x):Zb6 ws sep ls (k+1)=Zb6 ws sep ls k++prN ws sep x (x.length-1):=by
 rw[Zb6,Za2,prL,h];rfl
def Zev (ws:List Int)(sep:Int)(ls:List (List Int))(k:Nat)(x:List Int)(j:Nat):List Bd:=Zb6 ws sep ls k++prN ws sep x (j-1)
theorem ZxT (ws:List Int)(sep:Int)(ls:List (List Int))(k:Nat)(x:List Int):Zev ws sep ls k x 1=Zb6 ws sep ls k:=by simp[Zev,prN]
theorem ZxU {ws:List Int}{sep:Int}{ls:List (List Int)}{k:Nat}{x:List Int}{j:Nat}{u v:Int}(h1:1<=j)(hu:x[j-1]? =some u)(hv:x[j]? =some v):
  Zev ws sep ls k x (j+1)=Zev ws sep ls k x j++[(u,v,apF ws sep u v,0)]:=by
 rw[Zev,Zev,Am,ZB0 h1 hu hv,qK]
theorem ZxS {ws:List Int}{sep:Int}{ls:List (List Int)}{k:Nat}{x:List Int}{j:Nat}(h:ls[k]? =some x)(hj:j-1=x.length-1):Zb6 ws sep ls (k+1)=Zev ws sep ls k x j:=by
 rw[Zp2 h,Zev,hj]
theorem ZkZ (ws:List Int)(sep:Int)(ls:List (List Int)):∀k,k<=ls.length->(Zb6 ws sep ls k).length<=tot (ls.take k)
 |0,_=>by simp[Zb6,Za2]
 |k+1,hk=>by
  obtain⟨x,hx⟩:=Zac (show k<ls.length by omega);have:=ZkZ ws sep ls k (by omega);rw[Zp2 hx,uG,ZtJ,ZkI hx];omega
abbrev Zko (b:Bd):D:= .ag [.int b.1, .int b.2.1, .int b.2.2.1]
theorem ZBs (a:Lv)(ws:List Int)(sep:Int)(h:VA a ws sep):Zaa Tryz.prog 62 [lvD a,Zab ws, .int sep] (.sl ((Zb6 ws sep a.2.1 a.2.1.length).map Zko)):=by
 obtain⟨n,ls,ar,cs⟩:=a;have hl:=h.ls;have ht:=h.tt;have hvt:=h.vert;dsimp only at hl ht hvt|-;refine kE Tryz.func62 ?_;intro hat B X w0;refine kw1 kO kc0 kc0 ?_;refine Zao _ (Zcy 7 901 3 rfl rfl) ?_;refine Zaf (λ(k:Nat)=>k<=ls.length) (λ k=>[(1, .d (Zab ws)),(2, .int sep),(7, .ref 901 3 0 (Zb6 ws sep ls k).length (Zb6 ws sep ls k).length),(14, .d (Zae ls)),(15, .int ls.length),(16, .int k)]) (λ k=>[(901, .row 3 ((Zb6 ws sep ls k).map Zko))]) (λ k=>ls.length-k) 0 ?_ ?_ ?_
 ·exact uH _
 ·exact kN kc0 []
 ·intro k hk;have hAl:=ZkZ ws sep ls k hk;have hAt:=Zjr ls k;rcases uE k ls.length with hlt|hge
  ·obtain⟨x,hx⟩:=Zac hlt;have hxl:=Zdq (uA hx);have hxv:=hvt x (uA hx);refine kw1 kO (kc1 hx) kc0 ?_;refine Zaf (λ(j:Nat)=>1<=j/\j-1<=x.length-1) (λ j=>[(1, .d (Zab ws)),(2, .int sep),(7, .ref 901 3 0 (Zev ws sep ls k x j).length (Zev ws sep ls k x j).length),(9, .d (Zab x)),(10, .int j),(14, .d (Zae ls)),(15, .int ls.length),(16, .int k)]) (λ j=>[(901, .row 3 ((Zev ws sep ls k x j).map Zko))]) (λ j=>x.length-j) 1 ?_ ?_ ?_
   ·omega
   ·exact kN (kc1 @ZxT) []
   ·rintro j ⟨hj1,hj⟩;have hpl:=ZtJ ws sep x (j-1);rcases uE j x.length with hjl|hjl
    ·obtain⟨u,g1⟩:=Zac (show j-1<x.length by omega);obtain⟨v,g2⟩:=Zac hjl;have i1:=hxv _ (uA g1);have i2:=hxv _ (uA g2);have e1:(j:Int)-1=(j-1:Nat):=by omega
     have w1:=ZvA ws u i1.1;have w2:=ZvA ws v i2.1;have b1:=ZhF h u;have b2:=ZhF h v;have b3:=h.sep;have hq:(Zd1 ws u+Zd1 ws v+1).tdiv 2+sep=apF ws sep u v:=by
      rw[apF,zO (by omega)]
     have hp:=ZxU (ws:=ws) (sep:=sep) (ls:=ls) (k:=k) hj1 g1 g2;have hap:=Zk3 h u v;have hll:(Zev ws sep ls k x j).length<=2000:=by rw[Zev,uG,hpl];omega
     refine kw1 kO (kc5 e1 g1 g2 hq @Zal) (kc2 w1 w2) ?_;refine⟨j+1,?_,kN (kc6 hp @uG.{0} @yL.{0} @uQ.{0,0} @uT.{0,0} @yH.{0,0}) [(901,51)],?_⟩
     ·omega
     ·omega
    ·have hj:j-1=x.length-1:=by omega
     have hs:=ZxS (ws:=ws) (sep:=sep) hx hj;refine kw1 kO kc0 kc0 ?_;refine⟨k+1,?_,kN (kc1 hs) [],?_⟩
     ·omega
     ·omega
  ·have hk:k=ls.length:=by omega
   subst hk;refine kw1 kO kc0 kc0 ?_;exact ZbF (o:=901) rfl rfl (by simp) (by rw[uD (by simp)])
def ZjD (a:Lv)(k:Nat)(x:Arc):List Bd:=[(((tot a.2.1+k:Nat):Int),x.1,0,Zfk a.1 x),(((tot a.2.1+k:Nat):Int),x.2,0,Zfk a.1 x)]
def ZmP (a:Lv)(k:Nat):List Bd:=match a.2.2.1[k]? with
 |some x=>ZjD a k x
 |none=>[]
def ZgS (a:Lv)(k:Nat):List Bd:=Za2 (ZmP a) k
theorem Zp6 {a:Lv}{k:Nat}{x:Arc}(h:a.2.2.1[k]? =some x):ZgS a (k+1)=ZgS a k++ZjD a k x:=by
 rw[ZgS,Za2,ZmP,h];rfl
theorem ZmQ (a:Lv):∀k,k<=a.2.2.1.length->(ZgS a k).length=2*k
 |0,_=>rfl
 |k+1,hk=>by
  obtain⟨x,hx⟩:=Zac (show k<a.2.2.1.length by omega);rw[Zp6 hx,uG,ZmQ a k (by omega),ZjD];simp;omega
def Zhc (a:Lv)(ws:List Int)(sep:Int):Net:=(((tot a.2.1+a.2.2.1.length:Nat):Int),ZgS a a.2.2.1.length++Zb6 ws sep a.2.1 a.2.1.length)
theorem Zwq (a:Lv)(k:Nat)(x:Arc):∀d,d∈[bdD (((tot a.2.1+k:Nat):Int),x.1,0,Zfk a.1 x),bdD (((tot a.2.1+k:Nat):Int),x.2,0,Zfk a.1 x)]->d.cells.length=4:=by
 intro d hd;simp only[yF,gL,Cf]at hd;rcases hd with rfl|rfl<;>rfl
theorem Zwi (ws:List Int)(sep:Int)(ls:List (List Int))(k:Nat):∀q,q∈Zb6 ws sep ls k->q.2.2.2=0:=by
 intro q hq;obtain⟨i,_,hq⟩:=Zib.1 hq;rw[prL]at hq;split at hq
 ·obtain⟨j,_,rfl⟩:=uP.1 hq;rfl
 ·simp at hq
theorem ZvY (a:Lv)(ws:List Int)(sep:Int)(hw:wide a)(h:VA a ws sep)(hal:a.2.2.1.length<=1000):Zaa Tryz.prog 57 [lvD a,Zab ws, .int sep] (.tup [nD (Zhc a ws sep), .int 0]):=by
 have hv:=ZFw a ws sep hw;rw[h.ok]at hv;have ht:=h.tt;have hvx:=Zpt a (by omega);have hps:=ZBs a ws sep h;have hwt:=ZFE a;have hAl:=ZkZ ws sep a.2.1 a.2.1.length (uJ _);rw[yE]at hAl;rw[Zhc];have hab:=ZmQ a;have hsa:= @Zp6 a;have hbc:=Zwq a;revert hab hsa hbc;unfold ZjD;generalize ZgS a=AB;intro hab hsa hbc;obtain⟨n,ls,ar,cs⟩:=a;dsimp only at ht hvx hps hwt hAl hab hsa hbc hal|-;have hpz:=Zwi ws sep ls ls.length;generalize Zb6 ws sep ls ls.length=PL at hps hAl hpz|-;refine kE Tryz.func57 ?_;intro hat B X w0;have e0:(tot ls:Int)+ar.length=((tot ls+ar.length:Nat):Int):=by omega
 refine kw1 kO (kc1 e0) (kc2 hv hvx) ?_;refine Zao _ (Zch 8 1 901 4 rfl rfl rfl) ?_;refine Zaf (λ(k:Nat)=>k<=ar.length) (λ k=>[(1, .d (Zab ws)),(2, .int sep),(3, .ptr 3 0 0 0),(6, .ptr 6 0 0 0),(8, .ptr 8 0 0 0),(29, .d (Zaj ar)),(30, .int ar.length),(31, .int k)]) (λ k=>[(3, .cells [.int n, .d (Zae ls), .d (Zaj ar), .d (Zae cs)]),(6, .cells [.int 0, .nilS]),(8, .cells [.int ((tot ls+ar.length:Nat):Int), .ref 901 4 0 (AB k).length (AB k).length]),(901, .row 4 ((AB k).map bdD))]) (λ k=>ar.length-k) 0 ?_ ?_ ?_
 ·exact uH _
 ·have hz:AB 0=[]:=jN.1 (hab 0 (by omega));exact kN (kc1 hz) []
 ·intro k hk;have hkl:=hab k hk;rcases uE k ar.length with hlt|hge
  ·obtain⟨x,hx⟩:=Zac hlt;have hs:=hsa hx;have hc1:=hbc k x;have hw1:=hwt x;have e1:(tot ls:Int)+k=((tot ls+k:Nat):Int):=by omega
   revert hs hc1 hw1;generalize Zfk n x=wg;intro hs hc1 hw1;refine kw1 kO (kc3 hx e1 @Zal) (kc2 hvx hw1) ?_;refine⟨k+1,?_,kN (kc7 hs @uG.{0} @yB.{0} @uY.{0} @uQ.{0,0} @uT.{0,0} @yH.{0,0}) [(901,56)],?_⟩
   ·omega
   ·omega
  ·have hk:k=ar.length:=by omega
   subst hk;obtain⟨C,hC⟩:∃C:Nat->List Bd,C=λ j=>AB ar.length++PL.take j:=⟨_,rfl⟩
   have hC0:C 0=AB ar.length:=by rw[hC];simp
   have hCe:AB ar.length++PL=C PL.length:=by rw[hC];simp
   have hCs:∀(j:Nat) q,PL[j]? =some q->C (j+1)=C j++[q]:=λ j q hq=>by simp only[hC];rw[ZaA hq,qK]
   have hCl:∀j,(C j).length<=3000:=λ j=>by simp only[hC];rw[uG,yJ];omega
   rw[hCe];refine kw1 kO kc0 (kc1 hps) ?_;refine Zaf (λ(j:Nat)=>j<=PL.length) (λ j=>[(6, .ptr 6 0 0 0),(8, .ptr 8 0 0 0),(62, .d (.sl (PL.map Zko))),(63, .int PL.length),(64, .int j)]) (λ j=>[(6, .cells [.int 0, .nilS]),(8, .cells [.int ((tot ls+ar.length:Nat):Int), .ref 901 4 0 (C j).length (C j).length]),(901, .row 4 ((C j).map bdD))]) (λ j=>PL.length-j) 0 ?_ ?_ ?_
   ·exact uH _
   ·exact kN (kc1 hC0) []
   ·intro j hj;have hlj:=hCl j;rcases uE j PL.length with hlt|hge
    ·obtain⟨⟨u,v,p,z⟩,hq⟩:=Zac hlt;have hz:=hpz _ (uA hq);dsimp only at hz;subst hz;have hs:=hCs j _ hq;refine kw1 kO (kc2 hq @Zal) kc0 ?_;refine⟨j+1,?_,kN (kc6 hs @uG.{0} @yL.{0} @uQ.{0,0} @uT.{0,0} @yH.{0,0}) [(901,78)],?_⟩
     ·omega
     ·omega
    ·have hj:j=PL.length:=by omega
     subst hj;refine kw1 kO kc0 kc0 ?_;refine⟨_,rfl,⟨_,_,_,_,rfl,?_⟩,?_,trivial⟩
     ·simp(disch:=omega) only[go_sem,simprocAttr];rw[uD (by simp)]
     ·rfl
end Go.Proofs.YtjjbhjnpeenbkaaGreatDoor.Al
namespace Go.Proofs.YtjjbhjnpeenbkaaGreatDoor.Al
open Go Go.PS Go.Proofs
open Sx (Bd ite_min ite_max)
set_option maxRecDepth 100000
attribute [local irreducible] Zad wpG Zaa Zag
def inX (n:Int):Bool:=decide (-34359738368<=n/\n<=34359738368)
def Zdh (a:Lv)(x:List Int):Bool:=decide (x.length=tot a.2.1)&& !x.any λ n=> !inX n
theorem Zrt (a:Lv)(x:List Int)(h:tot a.2.1<=1000000):Zaa Tryz.prog 61 [lvD a,Zab x] (.bool (Zdh a x)):=by
 have hv:=Zpt a h;by_cases hl:x.length=tot a.2.1
 ·have e:Zdh a x= !x.any λ n=> !inX n:=by simp[Zdh,hl]
  rw[e];have hl':(x.length:Int)=tot a.2.1:=by omega
  refine kE Tryz.func61 ?_;intro hat B X w0;refine kw1 kO (kc1 @hl') (kc1 hv) ?_;refine Zaf (λ(k:Nat)=>k<=x.length/\∀(j:Nat) y,j<k->x[j]? =some y->(!inX y)=false) (λ k=>[(12, .d (Zab x)),(13, .int x.length),(14, .int k)]) (λ k=>[]) (λ k=>x.length-k) 0 ?_ ?_ ?_
  ·exact⟨uH _,λ j y h=>by omega⟩
  ·exact kN (kc1 @hl') []
  ·rintro k ⟨hk,hinv⟩;rcases uE k x.length with hlt|hge
   ·obtain⟨y,hy⟩:=Zac hlt;refine kw kO (kc1 hy) kc0 ?_
    repeat' first|exact True.intro|refine Bn.mk ?_ ?_|intro hc
    all_goals try
     refine Zah ?_;rw[ZcE hy (by simp[inX];omega)];rfl
    refine⟨k+1,?_,eL [] _ _ (by refine⟨?_,?_⟩<;>(repeat' first|exact fmn|refine fmc ⟨(by first|rfl|(simp(disch:=omega) only[go_sem,simprocAttr,inL];first|done|omega|(congr 1;done))),?_⟩);done),?_⟩
    ·exact⟨by omega,Zbr hinv hy (by simp[inX];omega)⟩
    ·omega
   ·refine kw1 kO kc0 kc0 ?_;refine Zah ?_;rw[Zc2 (λ j y hj=>hinv j y (by omega))];rfl
 ·have hl':¬(x.length:Int)=tot a.2.1:=by omega
  refine kE Tryz.func61 ?_;intro hat B X w0;have h1:=ZaJ 1 hat rfl;rw[uC]at h1;refine kw1 kO (kc1 @hl') (kc1 hv) ?_;refine Zah ?_;simp[Zdh,hl]
structure Fits (a:Lv)(x:List Int):Prop where
 len:x.length=tot a.2.1
 at':∀v:Int,0<=v->v<tot a.2.1->x[v.toNat]? =some (at0 x v)/\-34359738368<=at0 x v/\at0 x v<=34359738368
theorem Fits.of {a:Lv}{x:List Int}(h:Zdh a x=true):Fits a x:=by
 simp only[Zdh,uL,uF,yC]at h;refine⟨h.1,λ v h0 h1=>?_⟩;have hg:=ZdK (r:=x) h0 (by omega);have:=yS.1 h.2 _ (uA hg);simp only[inX,yC,Ao,uF,Bool.not_eq_false]at this;exact⟨hg,this⟩
theorem ZFF (n:Int)(e:Arc):1<=Zfk n e/\Zfk n e<=8:=by
 rw[Zfk];repeat' split
 all_goals omega
def ZhO (x:List Int)(q:Bd):Bool:=decide (at0 x q.2.1-at0 x q.1<q.2.2.1)
def Znc (a:Lv)(ws:List Int)(sep:Int)(x:List Int):Int:=if ZeS a ws sep then(if Zdh a x then(if(Zb6 ws sep a.2.1 a.2.1.length).any (ZhO x)then 14 else 0)else 3)else 1
theorem Zwh {a:Lv}{ws:List Int}{sep:Int}(h:VA a ws sep)(k:Nat):∀q,q∈Zb6 ws sep a.2.1 k->(0<=q.1/\q.1<tot a.2.1)/\(0<=q.2.1/\q.2.1<tot a.2.1)/\0<=q.2.2.1/\q.2.2.1<=2097153:=by
 intro q hq;obtain⟨i,_,hq⟩:=Zib.1 hq;rw[prL]at hq;split at hq
 ·rename_i x hx;obtain⟨j,hj,rfl⟩:=uP.1 hq;have hj:=uZ.1 hj;have g1:=ZaG (r:=x) (i:=j) (by omega);have g2:=ZaG (r:=x) (i:=j+1) (by omega);have hm:=uA hx;exact⟨h.vert x hm _ (uA g1),h.vert x hm _ (uA g2),Zk3 h _ _⟩
 ·simp at hq
end Go.Proofs.YtjjbhjnpeenbkaaGreatDoor.Al
namespace Go.Proofs.YtjjbhjnpeenbkaaGreatDoor.Al
open Go Go.PS Go.Proofs
open Sx (Bd bdD Zcn Net nD ite_min ite_max ZbA lowN_le Zh9 ZlQ)
set_option maxRecDepth 100000
attribute [local irreducible] Zad wpG Zaa Zag
def Zdj (r:List Int)(k:Nat):List (Int×Int):=(List.range k).map λ v:Nat=>((v:Int),at0 r v)
theorem ZAj (r:List Int)(k:Nat):(Zdj r k).length=k:=by simp[Zdj]
theorem ZAl (r:List Int):Zdj r 0=[]:=rfl
theorem ZAi {r:List Int}{k j:Nat}(h:j<k):(Zdj r k).getD j (0,0)=((j:Int),at0 r j):=by
 rw[gW,Zdj,uI,yR h];rfl
theorem ZtO {x y:Int}:∀{l:List (Int×Int)},(∀p,p∈l->p.1≠x)->Zeg l x y=l++[(x,y)]
 |[],_=>rfl
 |(a,b)::l,h=>by
  rw[Zeg,if_neg (show¬a=x from h (a,b) (by simp)),ZtO (l:=l) (λ p hp=>h p (uO _ hp))];rfl
theorem ZAk (r:List Int)(k:Nat):Zeg (Zdj r k) (k:Int) (at0 r k)=Zdj r (k+1):=by
 rw[ZtO]
 ·simp[Zdj,qN]
 ·intro p hp;obtain⟨v,hv,rfl⟩:=uP.1 hp;have:=uZ.1 hv;dsimp only;omega
theorem ZrC {x y:Int}:∀{l m:List (Int×Int)},(∀p,p∈l->p.1≠x)->Zbg (l++(x,y)::m) x=y
 |[],_,_=>by simp[Zbg]
 |(a,b)::l,m,h=>by
  rw[jH,Zbg,if_neg (show¬a=x from h (a,b) (by simp)),ZrC (l:=l) (λ p hp=>h p (uO _ hp))]
theorem ZsH {r:List Int}:∀{k v:Nat},v<k->Zbg (Zdj r k) (v:Int)=at0 r v
 |0,v,h=>by omega
 |k+1,v,h=>by
  have key:∀(l m:List (Int×Int)),(∃p,p∈l/\p.1=(v:Int))->Zbg (l++m) (v:Int)=Zbg l (v:Int):=by
   intro l m
   induction l with
   |nil=>rintro⟨p,hp,_⟩;simp at hp
   |cons q l ih=>
    rintro⟨p,hp,h2⟩;obtain⟨a,b⟩:=q;rw[jH,Zbg,Zbg];by_cases c:a=(v:Int)
    ·rw[if_pos c,if_pos c]
    ·rw[if_neg c,if_neg c];rcases yF.1 hp with rfl|hp
     ·exact absurd h2 c
     ·exact ih ⟨p,hp,h2⟩
  have e:Zdj r (k+1)=Zdj r k++[((k:Int),at0 r k)]:=by simp[Zdj,qN]
  rcases yY.1 h with h1|rfl
  ·rw[e,key (Zdj r k) [((k:Int),at0 r k)] ⟨((v:Int),at0 r v),uP.2 ⟨v,uZ.2 h1,rfl⟩,rfl⟩,ZsH h1]
  ·rw[e,ZrC];intro p hp;obtain⟨u,hu,rfl⟩:=uP.1 hp;have:=uZ.1 hu;dsimp only;omega
def ZeC (r:List Int)(T:Nat):Int:=ZbA (λ v:Nat=>at0 r v) T
def Zey (r:List Int)(T:Nat):List Int:=(List.range T).map λ v:Nat=>at0 r v-ZeC r T
def Ziv (r:List Int)(sn:List Nat)(m:Int):Prop:=(sn=[]->m=0)/\(sn≠[]->(∃j,j∈sn/\m=at0 r j)/\∀j,j∈sn->m<=at0 r (j:Nat))
theorem Ziv.step {r:List Int}{sn:List Nat}{m:Int}(h:Ziv r sn m)(j:Nat):Ziv r (sn++[j]) (if sn=[]\/at0 r j<m then at0 r j else m):=by
 refine⟨λ h=>by simp at h,λ _=>?_⟩;by_cases c:sn=[]
 ·subst c;rw[if_pos (.inl rfl)];exact⟨⟨j,by simp,rfl⟩,λ i hi=>by simp at hi;subst hi;omega⟩
 ·obtain⟨⟨i,hi,e⟩,h2⟩:=h.2 c;split
  ·rename_i hc;refine⟨⟨j,by simp,rfl⟩,λ u hu=>?_⟩;rw[yK,uS]at hu;rcases hu with hu|rfl
   ·have:=h2 u hu;rcases hc with hc|hc
    ·exact absurd hc c
    ·omega
   ·omega
  ·rename_i hc;refine⟨⟨i,by simp[hi],e⟩,λ u hu=>?_⟩;rw[yK,uS]at hu;rcases hu with hu|rfl
   ·exact h2 u hu
   ·omega
theorem Ziv.all {r:List Int}{sn:List Nat}{m:Int}{T:Nat}(h:Ziv r sn m)(h1:∀j,j<T->j∈sn)(h2:∀j,j∈sn->j<T):m=ZeC r T:=by
 rcases qM T with rfl|h0
 ·have:sn=[]:=List.eq_nil_iff_forall_not_mem.2 λ j hj=>by have:=h2 j hj;omega
  rw[h.1 this];rfl
 ·have hne:sn≠[]:=λ e=>by have:=h1 0 h0;rw[e]at this;simp at this
  obtain⟨⟨j,hj,e⟩,h3⟩:=h.2 hne;have a1:m<=ZeC r T:=Zh9 h0 λ v hv=>h3 v (h1 v hv)
  have a2:ZeC r T<=at0 r j:=lowN_le (h:=λ v:Nat=>at0 r v) (h2 j hj);omega
theorem ZjA (a:Lv)(ws:List Int)(sep:Int)(r:List Int)(hw:wide a)(h:VA a ws sep)(hal:a.2.2.1.length<=1000)
  (hB:Zag Tryz.prog 58 [.d (nD (Zhc a ws sep))] [(2000, .dead)] (.tup [.ref 2000 1 0 r.length r.length, .int 0]) [(2000, .row 1 (r.map D.int))])
  (hrl:tot a.2.1<=r.length)(hrb:∀v:Nat,v<r.length->0<=at0 r v/\at0 r v<=34359738368):
  Zaa Tryz.prog 17 [lvD a,Zab ws, .int sep] (.tup [Zab (Zey r (tot a.2.1)), .int 0]):=by
 have hn:=ZvY a ws sep hw h hal;have hvx:=Zpt a (by have:=h.tt;omega);have htt:=h.tt;obtain⟨N,hN⟩:∃N,N=Zhc a ws sep:=⟨_,rfl⟩;rw[<-hN]at hn hB;obtain⟨N1,N2⟩:=N;obtain⟨n,ls,ar,cs⟩:=a;dsimp only at hvx htt hrl|-;generalize tot ls=T at hvx htt hrl|-;have hml:(r.map D.int).length=r.length:=uC _;refine kE Tryz.func17 ?_;intro hat B X w0;refine kw1 kO kc0 (kc3 hn hvx (kmc [(2000,900)] hB)) ?_;refine Zaf (λ(k:Nat)=>k<=T) (λ k=>[(3, .ptr 3 0 0 0),(10, .ref 900 1 0 r.length r.length),(11, .mp 37),(39, .int T),(40, .int k)]) (λ k=>[(3, .cells [.int n, .d (Zae ls), .d (Zaj ar), .d (Zae cs)]),(900, .row 1 (r.map D.int)),(37, .imap (Zdj r k))]) (λ k=>T-k) 0 ?_ ?_ ?_
 ·exact uH _
 ·exact kN (kc1 @ZAl) []
 ·intro k hk;rcases uE k T with hlt|hge
  ·have hg:=ZaG (r:=r) (i:=k) (by omega);have hp:=ZAk r k;revert hg hp;generalize at0 r (k:Int)=rk;intro hg hp;refine kw1 kO (kc3 hg hp hml) kc0 ?_;refine⟨k+1,?_,kN (kc1 hp) [],?_⟩
   ·omega
   ·omega
  ·have hk:k=T:=by omega
   subst hk;have hMl:=ZAj r k;refine kw1 kO (kc1 hMl) kc0 ?_;refine Zaf (λ(q:List Nat×Int)=>Ziv r q.1 q.2/\q.1.Nodup/\∀j,j∈q.1->j<k) (λ q=>[(11, .mp 37),(13, .int q.2),(14, .bool (!q.1.isEmpty)),(51, .ptr 51 1 0 0)]) (λ q=>[(37, .imap (Zdj r k)),(51, .iter 37 k q.1)]) (λ q=>k-q.1.length) ([],(0:Int)) ?_ ?_ ?_
   ·exact⟨⟨λ _=>rfl,λ h=>absurd rfl h⟩,zA,by simp⟩
   ·exact kN (kc2 hMl @List.isEmpty_nil.{0}) []
   ·rintro⟨sn,m⟩ ⟨hmin,hnd,hlt⟩;dsimp only at hmin hnd hlt|-;have hln:=ZlQ k sn hnd hlt;refine ZbQ rfl ?_;refine ZB8 (i:=51) (o:=51) (m:=37) (k:=k) (sn:=sn) (l:=Zdj r k) rfl rfl rfl hMl (Db rfl) (Db rfl) (λ hall=>?_) (λ j hj hjn=>?_)
    ·have hm:=hmin.all hall hlt;subst hm;obtain⟨F,hF⟩:∃F:Nat->List Int,F=λ u=>Za9 (λ v:Nat=>at0 r v-ZeC r k) k u:=⟨_,rfl⟩
     have hfz:∀u:Nat,(F u).length=k:=λ u=>by rw[hF];exact ZdB _ k u
     have hf0:(F 0).map D.int=List.replicate k (D.int 0):=by rw[hF];exact Zh0 _ k
     have hfe:F k=Zey r k:=by rw[hF];exact ZhY _ k
     have hfs:∀u:Nat,u<k->((F u).map D.int).set u (D.int (at0 r u-ZeC r k))=(F (u+1)).map D.int:=λ u hu=>by simp only[hF];rw[<-ZhZ hu,yZ]
     have hlow:k=0\/(0<=ZeC r k/\ZeC r k<=34359738368):=by
      rcases qM k with h0|h0
      ·exact .inl h0
      ·refine .inr ⟨Zh9 h0 λ v hv=>(hrb v (by omega)).1,?_⟩;have:=lowN_le (h:=λ v:Nat=>at0 r v) h0;have h2:=(hrb 0 (by omega)).2;exact An this h2
     refine kw1 kO (kc1 hMl) kc0 ?_;refine Zaf (λ(u:Nat)=>u<=k) (λ u=>[(11, .mp 37),(13, .int (ZeC r k)),(17, .ref 66 1 0 k k),(68, .int k),(69, .int u)]) (λ u=>[(37, .imap (Zdj r k)),(66, .row 1 ((F u).map D.int))]) (λ u=>k-u) 0 ?_ ?_ ?_
     ·exact uH _
     ·exact kN (kc1 hf0) []
     ·intro u hu;have hfl:=hfz u;rcases uE u k with hlt2|hge2
      ·have hg:=ZsH (r:=r) hlt2;have hsm:=hfs u hlt2;obtain⟨od,hod⟩:=Zac (show u<(F u).length by omega);have hb1:=hrb u (by omega);have hb2:=hlow.resolve_left (by omega);have hfl2:=hfz (u+1);revert hg hsm hb1 hb2;generalize ZeC r k=lw;generalize at0 r (u:Int)=ru;intro hg hsm hb1 hb2;refine kw1 kO (kc5 hMl hg hsm hfl hod) kc0 ?_;refine⟨u+1,?_,kN (kc1 hsm) [],?_⟩
       ·omega
       ·omega
      ·have hu:u=k:=by omega
       subst hu;refine kw1 kO kc0 kc0 ?_;exact⟨_,rfl,ZbF (o:=66) rfl rfl (by simp[hfl]) (by rw[uD (by simp[hfl]),hfe]),Zai rfl,trivial⟩
    ·have hst:=hmin.step j;have hgl:(sn++[j]).getLast?=some j:=by simp
     have hgd:=ZAi (r:=r) hj;have hie:(sn++[j]).isEmpty=false:=by simp
     have hnd':(sn++[j]).Nodup:=by
      rw[kL];exact⟨hnd,by simp,by intro x hx y hy;rw[uS]at hy;subst hy;rintro rfl;exact hjn hx⟩
     have hlt':∀i,i∈sn++[j]->i<k:=λ i hi=>by
      rw[yK,uS]at hi;rcases hi with hi|rfl
      ·exact hlt i hi
      ·exact hj
     have hln':=ZlQ k _ hnd' hlt';rw[uG,yL]at hln';revert hst hgd;generalize at0 r (j:Int)=rj;intro hst hgd;rcases hse:sn.isEmpty with _|_
     ·have hne:sn≠[]:=by rintro rfl;cases hse
      by_cases c:rj<m
      ·rw[if_pos (.inr c)]at hst;refine kw1 kO (kc6 hMl hgl hgd hse c @Aw) kc0 ?_;refine⟨(sn++[j],rj),?_,kN (kc1 hie) [],?_⟩
       ·exact⟨hst,hnd',hlt'⟩
       ·dsimp only;rw[uG,yL];omega
      ·rw[if_neg (by rintro(h|h);exact hne h;exact c h)]at hst;refine kw1 kO (kc6 hMl hgl hgd hse c @Aw) kc0 ?_;refine⟨(sn++[j],m),?_,kN (kc1 hie) [],?_⟩
       ·exact⟨hst,hnd',hlt'⟩
       ·dsimp only;rw[uG,yL];omega
     ·have he:sn=[]:=Ah.1 hse;rw[if_pos (.inl he)]at hst;refine kw1 kO (kc5 hMl hgl hgd hse @Ce) kc0 ?_;refine⟨(sn++[j],rj),?_,kN (kc1 hie) [],?_⟩
      ·exact⟨hst,hnd',hlt'⟩
      ·dsimp only;rw[uG,yL];omega
end Go.Proofs.YtjjbhjnpeenbkaaGreatDoor.Al
namespace Go.Proofs.YtjjbhjnpeenbkaaGreatDoor.Al
open Go Go.PS Go.Proofs
open Sx (Bd bdD Zcn Net nD ite_min ite_max ZbA lowN_le Zh9)
set_option maxRecDepth 100000
attribute [local irreducible] Zad wpG Zaa Zag
end Go.Proofs.YtjjbhjnpeenbkaaGreatDoor.Al
namespace Go.Proofs.YtjjbhjnpeenbkaaGreatDoor.Al
open Go Go.PS Go.Proofs
open Sx (Bd bdD Zcn Net nD nOk Zb3 Zfq PotB zeros Best SolveOk solve_best ZhQ ZhR Zlb ZsL Zn5 midF Zn7 ZoH Zd7 ZgY ZcR ZdN ZaF gap Zrk)
set_option maxRecDepth 100000
attribute [local irreducible] Zad wpG Zaa Zag
theorem Zp9 (r:List Int)(v:Int):Sx.at0 r v=at0 r v:=rfl
variable {a:Lv}{ws:List Int}{sep:Int}
abbrev ZeE (a:Lv):Nat:=tot a.2.1+a.2.2.1.length
abbrev Zdl (a:Lv)(ws:List Int)(sep:Int):List Bd:=ZgS a a.2.2.1.length++Zb6 ws sep a.2.1 a.2.1.length
theorem ZsJ {k:Nat}{b:Bd}(h:b∈ZgS a k):∃i x,i<k/\a.2.2.1[i]? =some x/\(b=(((tot a.2.1+i:Nat):Int),x.1,0,Zfk a.1 x)\/b=(((tot a.2.1+i:Nat):Int),x.2,0,Zfk a.1 x)):=by
 obtain⟨i,hi,hb⟩:=Zib.1 h;rw[ZmP]at hb;split at hb
 ·rename_i x hx;rw[ZjD]at hb;simp only[yF,gL,Cf]at hb;exact⟨i,x,hi,hx,hb⟩
 ·simp at hb
theorem Zly {l:List Int}(hn:l.Nodup){k:Nat}{v:Int}(h:l[k]? =some v):l.idxOf v=k:=by
 obtain⟨h1,h2⟩:=uB.1 h;have h3:=List.idxOf_lt_length_iff.2 (uA h);have h4:l[l.idxOf v]=v:=zN h3;rcases jT (l.idxOf v) k with c|c|c
 ·exact absurd (h4.trans h2.symm) (gO.1 hn _ _ h3 h1 c)
 ·exact c
 ·exact absurd (h2.trans h4.symm) (gO.1 hn _ _ h1 h3 c)
theorem Zg1 {ls:List (List Int)}{i:Nat}{x:List Int}(h:ls[i]? =some x){j:Nat}{v:Int}(hj:x[j]? =some v):ls.flatten[(ls.take i).flatten.length+j]? =some v:=by
 obtain⟨h1,h2⟩:=uB.1 h;have e:ls=ls.take i++x::ls.drop (i+1):=by rw[<-h2,<-qY h1,gJ]
 have hjl:=(uB.1 hj).1;have e2:ls.flatten=(ls.take i).flatten++(x++(ls.drop (i+1)).flatten):=by
  conv=>lhs;rw[e]
  simp
 rw[e2,qF (by omega),Bv,qE hjl,hj]
theorem ZsI {k:Nat}{b:Bd}(h:b∈Zb6 ws sep a.2.1 k):∃(i:Nat) (x:List Int) (j:Nat) (u v:Int),a.2.1[i]? =some x/\x[j]? =some u/\x[j+1]? =some v/\b=(u,v,apF ws sep u v,0):=by
 obtain⟨i,hi,hb⟩:=Zib.1 h;rw[prL]at hb;split at hb
 ·rename_i x hx;obtain⟨j,hj,rfl⟩:=uP.1 hb;have hj:=uZ.1 hj;exact⟨i,x,j,_,_,hx,ZaG (by omega),ZaG (by omega),rfl⟩
 ·simp at hb
def Zil (a:Lv)(v:Nat):Int:=if v<tot a.2.1 then 4194304*(a.2.1.flatten.idxOf (v:Int):Int)else 0
theorem Zoc (h:VA a ws sep)(hal:a.2.2.1.length<=700):nOk ((ZeE a:Int),Zdl a ws sep)=true:=by
 have h1:=h.tt;have h2:=ZkZ ws sep a.2.1 a.2.1.length (uJ _);rw[yE]at h2;have h3:=ZmQ a a.2.2.1.length (uJ _);simp only[nOk,uL,uF,yC,yS,uG];have hN:ZeE a=tot a.2.1+a.2.2.1.length:=rfl;refine⟨⟨by omega,by omega,by omega⟩,λ b hb=>?_⟩;rw[yK]at hb;simp only[Sx.bdIn,yC,qC,Ar];rcases hb with hb|hb
 ·obtain⟨i,x,hi,hx,hb⟩:=ZsJ hb;have hm:=h.arcs x (uA hx);have hw:=ZFF a.1 x;rcases hb with rfl|rfl<;>(dsimp only;omega)
 ·obtain⟨i,x,j,u,v,hx,hu,hv,rfl⟩:=ZsI hb;have hm:=uA hx;have b1:=h.vert x hm _ (uA hu);have b2:=h.vert x hm _ (uA hv);have b3:=Zk3 h u v;have hne:u≠v:=by
   rintro rfl;have e1:=Zly h.nodup (Zg1 hx hu);have e2:=Zly h.nodup (Zg1 hx hv);omega
  dsimp only;omega
theorem ZAF (h:VA a ws sep):PotB (Zdl a ws sep) (zeros (Zdl a ws sep)) (Zil a):=by
 refine Sx.potB_nil.1 λ k b hk=>⟨?_,λ hf=>by simp[Sx.at0]at hf⟩
 have hb:=uA hk;rw[yK]at hb;rcases hb with hb|hb
 ·obtain⟨i,x,hi,hx,hb⟩:=ZsJ hb;rcases hb with rfl|rfl
  ·dsimp only;rw[Zil,if_neg (by omega),Zil];split<;>omega
  ·dsimp only;rw[Zil,if_neg (by omega),Zil];split<;>omega
 ·obtain⟨i,x,j,u,v,hx,hu,hv,rfl⟩:=ZsI hb;have hm:=uA hx;have b1:=h.vert x hm _ (uA hu);have b2:=h.vert x hm _ (uA hv);have b3:=Zk3 h u v;have e1:=Zly h.nodup (Zg1 hx hu);have e2:=Zly h.nodup (Zg1 hx hv);dsimp only;rw[Zil,if_pos (by omega),Zil,if_pos (by omega),show((u.toNat:Nat):Int)=u by omega,show((v.toNat:Nat):Int)=v by omega,e1,e2];omega
structure Bal (a:Lv)(ws:List Int)(sep:Int)(M:List Int):Prop where
 len:M.length=ZeE a
 bd:∀v:Nat,v<M.length->0<=at0 M v/\at0 M v<=34359738368
 pot:PotB (Zdl a ws sep) (zeros (Zdl a ws sep)) (λ v=>at0 M v)
 calls:Zag Tryz.prog 58 [.d (nD (Zhc a ws sep))] [(2000, .dead)] (.tup [.ref 2000 1 0 M.length M.length, .int 0]) [(2000, .row 1 (M.map D.int))]
 least:∀x:List Int,PotB (Zdl a ws sep) (zeros (Zdl a ws sep)) (λ v=>at0 x v)->ZcR (Zdl a ws sep) M<=ZcR (Zdl a ws sep) x
theorem ZwM (h:VA a ws sep)(hal:a.2.2.1.length<=700):∃A f b f2,Best (ZeE a) (Zdl a ws sep) A f/\Best (ZeE a) ((Zdl a ws sep).map Sx.mirB) b f2/\Bal a ws sep (midF A b):=by
 have hg:=Zoc h hal;obtain⟨hbd,hn,hll⟩:=Zfq hg;obtain⟨A,f,hS,hB⟩:=solve_best hg ⟨_,ZAF h⟩;have hgm:=Zn7 hg;obtain⟨hbm,_,_⟩:=Zfq hgm;obtain⟨b,f2,hS2,hB2⟩:=solve_best hgm ⟨_,ZoH hbd (Sx.potB_zeros (ZhR hbd hB))⟩;have hN:ZeE a<=2048:=hn;have hfa:Sx.fromTo A 34359738368:=λ v=>by have:=ZhQ hbd hB v;omega
 have hfb:Sx.fromTo b 34359738368:=λ v=>by have:=ZhQ hbm hB2 v;omega
 have hmid:=ZsL hg hB hB2;have hml:(midF A b).length=ZeE a:=by simp[midF,hB.rl]
 have hfp:=Zrk hmid.1;have hrk:Sx.rkOk ((ZeE a:Int),Zdl a ws sep) (midF A b)=true:=by
  have:=hmid.1;simp only[Zd7,uL]at this;exact this.1
 obtain⟨_,_,hrk⟩:=Sx.rkOk_in hrk;refine⟨A,f,b,f2,hB,hB2,hml,λ v hv=>?_,hfp.2.2,?_,λ x hx=>?_⟩
 ·have h1:=hrk v (by omega) (by dsimp only;omega);rw[Zp9]at h1;refine⟨?_,h1.2.2⟩;have h2:=Zn5 (a:=A) (b:=b) (v:=v) (by rw[hB.rl];omega);rw[Zp9]at h2;have h3:=Sx.lowN_le (h:=Sx.halfAt A b (Sx.topN A b A.length)) (k:=A.length) (v:=v) (by rw[hB.rl];omega);omega
 ·have hc:=Sx.Balanced_ok ((ZeE a:Int),Zdl a ws sep) A b f f2 hS hS2 (by dsimp only;omega) (by rw[hB.rl];omega) (λ v=>by have:=hfa v;omega) (λ v=>by have:=hfb v;omega);rw[show A.length=(midF A b).length by rw[hml,hB.rl]]at hc;exact hc
 ·have h1:=(Zlb hbd hB hx).1;have h2:=hmid.2;have hfe:=Sx.best_feas hg hB;have hr1:Sx.rkOk ((ZeE a:Int),Zdl a ws sep) A=true:=by
   simp only[Zd7,uL]at hfe;exact hfe.1
  have hr2:Sx.rkOk ((ZeE a:Int),Zdl a ws sep) (midF A b)=true:=by
   have:=hmid.1;simp only[Zd7,uL]at this;exact this.1
  rw[Sx.cost_is hr1,Sx.cost_is hr2]at h2;omega
end Go.Proofs.YtjjbhjnpeenbkaaGreatDoor.Al
namespace Go.Proofs.YtjjbhjnpeenbkaaGreatDoor.Al
open Go Go.PS Go.Proofs
open Sx (Bd nOk Zb3 Zfq PotB zeros Best ZhQ ZhR ZcR ZdN ZaF ZbA lowN_le Zh9 midF)
set_option maxRecDepth 100000
variable {a:Lv}{ws:List Int}{sep:Int}
theorem ZBW {l:List Bd}{r:List Int}(h:PotB l (zeros l) (λ v=>at0 r v)){b:Bd}(hb:b∈l)(h1:0<=b.1)(h2:0<=b.2.1):at0 r b.1+b.2.2.1<=at0 r b.2.1:=by
 obtain⟨k,hk⟩:=yV.1 hb;have:=(h k b hk).1;dsimp only at this
 rwa [show((b.1.toNat:Nat):Int)=b.1 by omega,show((b.2.1.toNat:Nat):Int)=b.2.1 by omega]at this
theorem Zrn (r:List Int)(T:Nat):(Zey r T).length=T:=by simp[Zey]
theorem ZnB {r:List Int}{T:Nat}{v:Int}(h0:0<=v)(h1:v<T):at0 (Zey r T) v=at0 r v-ZeC r T:=by
 obtain⟨n,rfl⟩:∃n:Nat,v=n:=⟨v.toNat,by omega⟩;have hn:n<T:=by omega
 rw[at0,Zey,uM,uI,yR hn];rfl
theorem ZsA (h:VA a ws sep){M:List Int}(hM:Bal a ws sep M)(h0:0<tot a.2.1):0<=ZeC M (tot a.2.1)/\∀v:Nat,v<tot a.2.1->ZeC M (tot a.2.1)<=at0 M v:=by
 have hl:M.length=tot a.2.1+a.2.2.1.length:=hM.len;exact⟨Zh9 h0 λ v hv=>(hM.bd v (by omega)).1,λ v hv=>lowN_le (h:=λ v:Nat=>at0 M v) hv⟩
theorem ZyE (h:VA a ws sep){M:List Int}(hM:Bal a ws sep M):Zdh a (Zey M (tot a.2.1))=true:=by
 have hl:M.length=tot a.2.1+a.2.2.1.length:=hM.len;simp only[Zdh,uL,uF,yC,yS,Zrn,Dj];intro x hx;obtain⟨v,hv,rfl⟩:=uP.1 hx;have hv:=uZ.1 hv;have h1:=ZsA h hM (by omega);have h2:=h1.2 v hv;have h3:=hM.bd v (by omega);simp only[inX,yC,qC,Ar];omega
theorem ZyD (h:VA a ws sep){M:List Int}(hM:Bal a ws sep M):Znc a ws sep (Zey M (tot a.2.1))=0:=by
 rw[Znc,if_pos h.ok,if_pos (ZyE h hM),if_neg];rw[Cd,yS];intro q hq;have hi:=Zwh h _ q hq;have:=ZBW hM.pot (Aq _ hq) hi.1.1 hi.2.1.1;simp only[ZhO,uF,Int.not_lt];rw[ZnB hi.1.1 hi.1.2,ZnB hi.2.1.1 hi.2.1.2];omega
end Go.Proofs.YtjjbhjnpeenbkaaGreatDoor.Al
namespace Go.Proofs.YtjjbhjnpeenbkaaGreatDoor.Al
open Go Go.PS Go.Proofs
open Sx (Bd bdD Zcn Net nD)
set_option maxRecDepth 100000
attribute [local irreducible] Zad wpG Zaa Zag
abbrev lvA :Lv:=(3,[[0],[1,2]],[(0,1),(0,2)],[[0,1],[0,2]])
theorem ZFH :wide lvA:=by
 intro y hy;simp only[lvA,yF,gL,Cf]at hy;rcases hy with rfl|rfl<;>decide
theorem vA :Zar lvA=true:=by
 simp only[Zar,ZcX,lvA,uT,yH,<-ZrT]
 decide+kernel
end Go.Proofs.YtjjbhjnpeenbkaaGreatDoor.Al
