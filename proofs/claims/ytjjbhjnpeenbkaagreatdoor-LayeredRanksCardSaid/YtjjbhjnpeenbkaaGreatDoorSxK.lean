/- Longest ways: what the search does, and Zci which bounds. -/
import Derived.Test.YtjjbhjnpeenbkaaGreatDoorSxA
set_option linter.unusedSimpArgs false
set_option linter.unusedVariables false
set_option maxHeartbeats 16000000
namespace Go.Proofs.YtjjbhjnpeenbkaaGreatDoor.Sx
open Go Go.PS Go.Proofs
abbrev Way :=Int×Int×Stp×Bool
abbrev Zl4 (w:Way):D:= .ag [.int w.1, .int w.2.1, .int w.2.2.1.1, .int w.2.2.1.2.1, .int w.2.2.1.2.2.1, .bool w.2.2.1.2.2.2, .bool w.2.2.2]
def Zi8 :Way:=(0,0,(0,0,0,false),false)
def ZdS :Way:=(-1152921504606846976,0,(0,0,0,false),false)
def ZdE :Way:=(0,0,(0,0,0,false),true)
abbrev LS :=List Way×List Bool×List Int
def wAt (W:List Way)(v:Int):Way:=(W[v.toNat]?).getD ZdS
def bAt (B:List Bool)(v:Int):Bool:=(B[v.toNat]?).getD true
def Zbl (v:Int)(σ:LS)(s:Stp):LS:=
 if(wAt σ.1 s.1).1<(wAt σ.1 v).1+s.2.1 then
  (σ.1.set s.1.toNat ((wAt σ.1 v).1+s.2.1,v,s,false),if bAt σ.2.1 s.1 then σ.2 else(σ.2.1.set s.1.toNat true,σ.2.2++[s.1]))
 else σ
def inner (L:List Stp)(v:Int)(σ:LS)(i:Nat):LS:=(L.take i).foldl (Zbl v) (σ.1,σ.2.1.set v.toNat false,σ.2.2)
def ZEd (ST:Nat->List Stp)(σ:LS)(v:Int):LS:=inner (ST v.toNat) v σ (ST v.toNat).length
def ZbE (ST:Nat->List Stp)(σ:LS)(j:Nat):LS:=(σ.2.2.take j).foldl (ZEd ST) (σ.1,σ.2.1,[])
def ZaB (ST:Nat->List Stp)(σ:LS):Nat->LS
 |0=>σ
 |k+1=>ZbE ST (ZaB ST σ k) (ZaB ST σ k).2.2.length
theorem Znd {α β:Type}{f:β->α->β}{l:List α}{k:Nat}{x:α}(a:β)(h:l[k]? =some x):(l.take (k+1)).foldl f a=f ((l.take k).foldl f a) x:=by
 rw[ZaA h,List.foldl_append];rfl
theorem ZjF {L:List Stp}{v:Int}{σ:LS}{i:Nat}{s:Stp}(h:L[i]? =some s):inner L v σ (i+1)=Zbl v (inner L v σ i) s:=Znd _ h
theorem ZjS {ST:Nat->List Stp}{σ:LS}{j:Nat}{v:Int}(h:σ.2.2[j]? =some v):ZbE ST σ (j+1)=inner (ST v.toNat) v (ZbE ST σ j) (ST v.toNat).length:=Znd _ h
def ZeJ (n:Nat)(U:Int)(c:Nat)(σ:LS):Prop:=
 σ.1.length=n/\σ.2.1.length=n/\(∀x∈σ.2.2,0<=x/\x<(n:Int))/\(∀w∈σ.1,-1152921504606846976<=w.1/\w.1<=U)/\σ.2.2.length<=σ.2.1.count true+c
def ZhC (n:Nat)(v:Int)(L:List Stp):Prop:=∀s∈L,0<=s.1/\s.1<(n:Int)/\s.1≠v/\-16777216<=s.2.1/\s.2.1<=16777216
theorem Zwy (l:List Bool):∀v,l.count true<=(l.set v false).count true+1:=by
 induction l with
 |nil=>intro v;simp
 |cons b l ih=>
  intro v;cases v with
  |zero=>cases b<;>simp
  |succ v=>have:=ih v;cases b<;>simp<;>omega
theorem Zwz (l:List Bool):∀v,l[v]? =some false->(l.set v true).count true=l.count true+1:=by
 induction l with
 |nil=>intro v h;simp at h
 |cons b l ih=>
  intro v h;cases v with
  |zero=>simp at h;subst h;simp
  |succ v=>have:=ih v (by simpa using h);cases b<;>simp<;>omega
theorem Zeg {W:List Way}{v:Int}{n:Nat}(hW:W.length=n)(h1:0<=v)(h2:v<(n:Int)):W[v.toNat]? =some (wAt W v):=by
 obtain⟨x,hx⟩:=Zac (show v.toNat<W.length by omega);rw[wAt,hx];rfl
theorem Zms {W:List Bool}{v:Int}{n:Nat}(hW:W.length=n)(h1:0<=v)(h2:v<(n:Int)):W[v.toNat]? =some (bAt W v):=by
 obtain⟨x,hx⟩:=Zac (show v.toNat<W.length by omega);rw[bAt,hx];rfl
theorem Zhx {W:List Way}{u v:Int}{x:Way}(h1:0<=u)(h2:0<=v)(h3:v.toNat<W.length):wAt (W.set v.toNat x) u=if u=v then x else wAt W u:=by
 rw[wAt,yX];by_cases h:u=v
 ·subst h;rw[if_pos rfl,if_pos h3,if_pos rfl];rfl
 ·rw[if_neg (by omega),if_neg h];rfl
theorem ZBg {n c:Nat}{U v:Int}{σ:LS}{s:Stp}(h:ZeJ n (U+16777216) c σ)(hv:(wAt σ.1 v).1<=U)(h0:0<=v)(hs:0<=s.1/\s.1<(n:Int)/\s.1≠v/\-16777216<=s.2.1/\s.2.1<=16777216):
  ZeJ n (U+16777216) c (Zbl v σ s)/\(wAt (Zbl v σ s).1 v).1<=U:=by
 obtain⟨g1,g2,g3,g4,g5⟩:=h;obtain⟨s1,s2,s3,s4,s5⟩:=hs;rw[Zbl];split
 ·rename_i hlt;have hold:=g4 _ (uA (Zeg g1 s1 s2));refine⟨⟨by simp[g1],?_,?_,?_,?_⟩,?_⟩
  ·split
   ·exact g2
   ·simp[g2]
  ·split
   ·exact g3
   ·intro x hx;rcases yO.1 hx with hx|hx
    ·exact g3 x hx
    ·rw[uT.1 hx];exact⟨s1,s2⟩
  ·intro w hw;rcases jY hw with hw|rfl
   ·exact g4 w hw
   ·dsimp only;omega
  ·split
   ·exact g5
   ·rename_i hb;have hb:bAt σ.2.1 s.1=false:=by simpa using hb
    have:=Zwz σ.2.1 s.1.toNat (by rw[Zms g2 s1 s2,hb]);dsimp only;rw[uH,this,yL];omega
  ·dsimp only;rw[Zhx h0 s1 (by omega),if_neg (by omega)];exact hv
 ·exact⟨⟨g1,g2,g3,g4,g5⟩,hv⟩
theorem ZxK {n c c':Nat}{U U':Int}{σ:LS}(h:ZeJ n U c σ)(hU:U<=U')(hc:c<=c'):ZeJ n U' c' σ:=by
 obtain⟨g1,g2,g3,g4,g5⟩:=h;exact⟨g1,g2,g3,λ w hw=>by have:=g4 w hw;omega,by omega⟩
theorem Zq9 {n c:Nat}{U v:Int}{σ:LS}{L:List Stp}(h:ZeJ n U c σ)(h0:0<=v)(hvn:v<(n:Int))(hL:ZhC n v L):
  ∀i,ZeJ n (U+16777216) (c+1) (inner L v σ i)/\(wAt (inner L v σ i).1 v).1<=U:=by
 intro i
 induction i with
 |zero=>
  obtain⟨g1,g2,g3,g4,g5⟩:=h;have:=Zwy σ.2.1 v.toNat;exact⟨⟨g1,by simp[inner,g2],g3,λ w hw=>by have:=g4 w hw;omega,by simp only[inner,yU,Cp];omega⟩,(g4 _ (uA (Zeg g1 h0 hvn))).2⟩
 |succ i ih=>
  rcases uC i L.length with hi|hi
  ·obtain⟨s,hs⟩:=Zac hi;rw[ZjF hs];exact ZBg ih.1 ih.2 h0 (hL s (uA hs))
  ·have:inner L v σ (i+1)=inner L v σ i:=by rw[inner,inner,uE (by omega),uE hi]
   rw[this];exact ih
theorem ZnA {n c:Nat}{U:Int}{σ:LS}{ST:Nat->List Stp}(h:ZeJ n U c σ)(hST:∀v:Nat,v<n->ZhC n v (ST v)):
  ∀j,j<=σ.2.2.length->ZeJ n (U+16777216*j) j (ZbE ST σ j):=by
 intro j
 induction j with
 |zero=>intro _;obtain⟨g1,g2,g3,g4,g5⟩:=h;exact⟨g1,g2,by simp[ZbE],λ w hw=>by have:=g4 w hw;omega,by simp[ZbE]⟩
 |succ j ih=>
  intro hj;obtain⟨v,hv⟩:=Zac (show j<σ.2.2.length by omega);have hvb:=h.2.2.1 v (uA hv);rw[ZjS hv];refine ZxK (Zq9 (ih (by omega)) hvb.1 hvb.2 (?_) _).1 (by omega) (uI _);have:=hST v.toNat (by omega)
  rwa [show((v.toNat:Nat):Int)=v by omega]at this
theorem Zrk {n:Nat}{σ:LS}{ST:Nat->List Stp}(hn:n<=2048)(h:ZeJ n 0 σ.2.2.length σ)(hq:σ.2.2.length<=n)(hST:∀v:Nat,v<n->ZhC n v (ST v)):
  ∀k,k<=n+1->ZeJ n (70437463654400*k) (ZaB ST σ k).2.2.length (ZaB ST σ k)/\(ZaB ST σ k).2.2.length<=n*(k+1):=by
 intro k
 induction k with
 |zero=>intro _;exact⟨by simpa[ZaB]using h,by simpa[ZaB]using hq⟩
 |succ k ih=>
  intro hk;obtain⟨h1,h2⟩:=ih (by omega);have h3:=ZnA h1 hST (ZaB ST σ k).2.2.length (uI _);have hqk:(ZaB ST σ k).2.2.length<=4198400:=by
   have:n*(k+1)<=2048*2050:=zE hn (by omega);omega
  obtain⟨g1,g2,g3,g4,g5⟩:=h3;have hc:((ZbE ST (ZaB ST σ k) (ZaB ST σ k).2.2.length).2.1).count true<=n:=by rw[<-g2];exact List.count_le_length
  refine⟨⟨g1,g2,g3,λ w hw=>?_,by simp only[ZaB];omega⟩,?_⟩
  ·have:=g4 w hw;omega
  ·simp only[ZaB];have:n*(k+1+1)=n*(k+1)+n:=by rw[Nat.mul_succ]
   omega
def Zef (n:Nat)(st:List Int)(j:Nat):List Way:=(st.take j).foldl (λ W v=>W.set v.toNat ZdE) (List.replicate n ZdS)
theorem ZtR {n:Nat}{st:List Int}{j:Nat}{v:Int}(h:st[j]? =some v):Zef n st (j+1)=(Zef n st j).set v.toNat ZdE:=Znd _ h
theorem Zi1 (n:Nat)(st:List Int):∀j,(Zef n st j).length=n:=by
 intro j;rw[Zef];generalize st.take j=l;have:∀(l:List Int) (W:List Way),(l.foldl (λ W v=>W.set v.toNat ZdE) W).length=W.length:=by
  intro l
  induction l with
  |nil=>intro W;rfl
  |cons v l ih=>intro W;rw[jN,ih];simp
 rw[this];simp
theorem ZDi (n:Nat)(st:List Int)(j:Nat):∀w∈Zef n st j,w=ZdS\/w=ZdE:=by
 rw[Zef];generalize st.take j=l;have:∀(l:List Int) (W:List Way),(∀w∈W,w=ZdS\/w=ZdE)->∀w∈l.foldl (λ W v=>W.set v.toNat ZdE) W,w=ZdS\/w=ZdE:=by
  intro l
  induction l with
  |nil=>intro W h;exact h
  |cons v l ih=>
   intro W h;rw[jN];refine ih _ λ w hw=>?_
   rcases jY hw with hw|rfl
   ·exact h w hw
   ·exact .inr rfl
 exact this l _ λ w hw=> .inl (Aa hw)
def Zaz (n:Nat)(st:List Int):LS:=(Zef n st st.length,List.replicate n false,st)
theorem ZtS {n:Nat}{st:List Int}(hst:∀x∈st,0<=x/\x<(n:Int)):ZeJ n 0 (Zaz n st).2.2.length (Zaz n st):=by
 refine⟨Zi1 _ _ _,by simp[Zaz],hst,λ w hw=>?_,by omega⟩;rcases ZDi _ _ _ w hw with rfl|rfl<;>simp[ZdS,ZdE]
def ZiB (n:Nat)(ST:Nat->List Stp)(st:List Int):Option Nat:=Zb1 (λ k=>(ZaB ST (Zaz n st) k).2.2.isEmpty) (n+2)
def Zcg (n:Nat)(ST:Nat->List Stp)(st:List Int):Option (List Way):=(ZiB n ST st).map λ k=>(ZaB ST (Zaz n st) k).1
set_option maxRecDepth 100000
attribute [local irreducible] Zad wpG Zaa Zah
theorem ZBj {v:Int}{σ:LS}{s:Stp}(h:¬(wAt σ.1 s.1).1<(wAt σ.1 v).1+s.2.1):Zbl v σ s=σ:=by rw[Zbl,if_neg h]
theorem ZBm {v:Int}{σ:LS}{s:Stp}(h:(wAt σ.1 s.1).1<(wAt σ.1 v).1+s.2.1)(hb:bAt σ.2.1 s.1=true):
  Zbl v σ s=(σ.1.set s.1.toNat ((wAt σ.1 v).1+s.2.1,v,s,false),σ.2.1,σ.2.2):=by rw[Zbl,if_pos h,if_pos hb]
theorem ZBi {v:Int}{σ:LS}{s:Stp}(h:(wAt σ.1 s.1).1<(wAt σ.1 v).1+s.2.1)(hb:bAt σ.2.1 s.1=false):
  Zbl v σ s=(σ.1.set s.1.toNat ((wAt σ.1 v).1+s.2.1,v,s,false),σ.2.1.set s.1.toNat true,σ.2.2++[s.1]):=by
 rw[Zbl,if_pos h,if_neg (by rw[hb];exact kK)]
abbrev Zeh (W:List Way):List D:=W.map Zl4
abbrev ZmC (B:List Bool):List D:=B.map D.bool
abbrev intsL (l:List Int):List D:=l.map D.int
def Ze1 (n k:Nat):List Way:=(List.range n).map λ u=>if u<k then ZdS else Zi8
theorem ZjX (n k:Nat):(Ze1 n k).length=n:=by simp[Ze1]
theorem Zlu {n k u:Nat}(h:u<n):(Ze1 n k)[u]? =some (if u<k then ZdS else Zi8):=by simp[Ze1,h]
theorem ZzD (n:Nat):Zeh (Ze1 n 0)=List.replicate n (Zl4 Zi8):=by
 rw[kX];refine⟨by simp[Ze1],λ b hb=>?_⟩;simp only[Ze1,gR,uP,Zeh]at hb;obtain⟨u,_,rfl⟩:=hb;simp
theorem ZzC {n k:Nat}(h:k<n):(Ze1 n k).set k ZdS=Ze1 n (k+1):=by
 refine yS λ u=>?_
 by_cases hu:u<n
 ·rw[Zlu hu,yX,Zlu hu,ZjX];by_cases c:k=u
  ·subst c;rw[if_pos rfl,if_pos h,if_pos (by omega)]
  ·rw[if_neg c];by_cases c2:u<k
   ·rw[if_pos c2,if_pos (by omega)]
   ·rw[if_neg c2,if_neg (by omega)]
 ·rw[uL (by rw[yJ,ZjX];omega),uL (by rw[ZjX];omega)]
theorem ZzB (n:Nat)(st:List Int):Ze1 n n=Zef n st 0:=by
 refine yS λ u=>?_
 by_cases hu:u<n
 ·rw[Zlu hu,if_pos hu];simp[Zef,hu]
 ·rw[uL (by rw[ZjX];omega),uL (by rw[Zi1];omega)]
def Zau (l:List Bd)(f:List Int)(v:Nat):List Stp:=Ze8 l f v l.length
theorem ZDn {n:Nat}{l:List Bd}{f:List Int}
  (hb:∀(k:Nat) b,l[k]? =some b->0<=b.1/\b.1<n/\0<=b.2.1/\b.2.1<n/\b.1≠b.2.1/\-16777216<=b.2.2.1/\b.2.2.1<=16777216)(v:Nat):ZhC n v (Zau l f v):=by
 have key:∀k,ZhC n v (Ze8 l f v k):=by
  intro k
  induction k with
  |zero=>intro s hs;simp[Ze8,Za5]at hs
  |succ k ih=>
   intro s hs;simp only[Ze8,Za5]at hs;rcases yO.1 hs with hs|hs
   ·exact ih s hs
   ·rw[Zib]at hs;split at hs
    ·rename_i b hbk;have:=hb k b hbk;rcases yO.1 hs with hs|hs
     ·split at hs
      ·rw[uT.1 hs];dsimp only;omega
      ·simp at hs
     ·split at hs
      ·rw[uT.1 hs];dsimp only;omega
      ·simp at hs
    ·simp at hs
 exact key _
theorem Zzf (ST:Nat->List Stp)(σ:LS):ZbE ST σ 0=(σ.1,σ.2.1,[]):=rfl
theorem Zx8 (L:List Stp)(v:Int)(σ:LS):inner L v σ 0=(σ.1,σ.2.1.set v.toNat false,σ.2.2):=rfl
theorem Zlk (n:Nat)(l:List Bd)(f:List Int)(st:List Int)(hn:n<=2048)(hl:l.length<=4096)(hfl:f.length=l.length)
  (hb:∀(k:Nat) b,l[k]? =some b->0<=b.1/\b.1<n/\0<=b.2.1/\b.2.1<n/\b.1≠b.2.1/\-16777216<=b.2.2.1/\b.2.2.1<=16777216)
  (hst:∀x∈st,0<=x/\x<(n:Int))(hsn:st.length<=n):
  (∀W,Zcg n (Zau l f) st=some W->Zah Tryz.prog 160 [.d (pD n l f), .d (Zab st)] [(2000, .dead)] (.tup [.ref 2000 7 0 n n, .bool true]) [(2000, .row 7 (Zeh W))])/\
  (Zcg n (Zau l f) st=none->Zah Tryz.prog 160 [.d (pD n l f), .d (Zab st)] [(2000, .dead)] (.tup [.nilS, .bool false]) [(2000, .dead)]):=by
 have hsteps:=ZDo n l f hn hl hfl hb;have hSL:∀v:Nat,v<n->ZhC n v (Zau l f v):=λ v _=>ZDn hb v
 have hgood:=Zrk hn (ZtS hst) hsn hSL;have main:∀(r:PV) (ob:Ob),(match Zcg n (Zau l f) st with|some W=>r= .tup [.ref 2000 7 0 n n, .bool true]/\ob= .row 7 (Zeh W)|none=>r= .tup [.nilS, .bool false]/\ob= .dead)->
   Zah Tryz.prog 160 [.d (pD n l f), .d (Zab st)] [(2000, .dead)] r [(2000,ob)]:=by
  intro r ob hro;have hr1:r.only [2000] 4=true:=by
   revert hro;split<;>(rintro⟨rfl,rfl⟩;rfl)
  have hr2:ob.only [2000]=true:=by
   revert hro;split<;>(rintro⟨rfl,rfl⟩;rfl)
  refine ZpW Tryz.func160 rfl (by decide+kernel) (uY rfl) rfl (ZbS rfl) hr1 (by simp[hr2]) rfl ?_;intro B X w0;refine kw1 kO kc0 (kc1 hsteps) ?_;refine Zae (λ(k:Nat)=>k<=n) (λ k=>[(0, .d (pD n l f)),(1, .d (Zab st)),(6, .d (.sl (Zi2 n l f))),(7, .ref 27 7 0 n n),(29, .int n),(30, .int k)]) (λ k=>[(27, .row 7 (Zeh (Ze1 n k)))]) (λ k=>n-k) 0 ?_ ?_ ?_
  ·exact uG _
  ·exact kN (kc2 @ZzD @Zi8.eq_1) []
  ·intro k hk;have hlen:=ZjX n k;rcases uC k n with hlt|hge
   ·have hg:(Ze1 n k)[k]? =some Zi8:=by rw[Zlu hlt,if_neg (by omega)]
    have hstp:=ZzC hlt;refine kw1 kO (kc3 hg hlen @Zi8.eq_1) kc0 ?_;refine⟨k+1,?_,kN (kc3 @hstp.symm @yR.{0,0} @ZdS.eq_1) [],?_⟩
    ·omega
    ·omega
   ·refine kw1 kP kc0 kc0 ?_;have:k=n:=by omega
    subst this;rw[ZzB k st];refine Zae (λ(j:Nat)=>j<=st.length) (λ j=>[(0, .d (pD k l f)),(1, .d (Zab st)),(6, .d (.sl (Zi2 k l f))),(7, .ref 27 7 0 k k),(38, .d (Zab st)),(39, .int st.length),(40, .int j)]) (λ j=>[(27, .row 7 (Zeh (Zef k st j)))]) (λ j=>st.length-j) 0 ?_ ?_ ?_
    ·exact uG _
    ·exact kN kc0 []
    ·intro j hj;have hlen:=Zi1 k st j;rcases uC j st.length with hlt|hge2
     ·obtain⟨x,hx⟩:=Zac hlt;have hxi:=hst x (uA hx);have hsu:=ZtR (n:=k) hx;obtain⟨v,rfl⟩:∃v:Nat,x=v:=⟨x.toNat,by omega⟩;have hg:(Zef k st j)[v]? =some (wAt (Zef k st j) v):=Zeg (v:=(v:Int)) hlen (by omega) (by omega);rw[uK]at hsu;refine kw1 kO (kc3 hx hg hlen) kc0 ?_;refine⟨j+1,?_,kN (kc3 hsu @yR.{0,0} @ZdE.eq_1) [],?_⟩
      ·omega
      ·omega
     ·refine kw1 kP kc0 kc0 ?_;have:j=st.length:=by omega
      subst this;refine Zae (λ(q:Nat)=>match q with|k'=>k'<=k+1/\Zb1 (λ i=>(ZaB (Zau l f) (Zaz k st) i).2.2.isEmpty) k'=none) (λ k'=>[(0, .d (pD k l f)),(6, .d (.sl (Zi2 k l f))),(7, .ref 27 7 0 k k),(11, .d (Zab (ZaB (Zau l f) (Zaz k st) k').2.2)),(12, .ref 55 1 0 k k),(13, .int k')]) (λ k'=>[(27, .row 7 (Zeh (ZaB (Zau l f) (Zaz k st) k').1)),(55, .row 1 (ZmC (ZaB (Zau l f) (Zaz k st) k').2.1))]) (λ k'=>k+1-k') 0 ?_ ?_ ?_
      ·exact⟨uG _,rfl⟩
      ·exact kN (kc3 @ZaB.eq_1 @Zaz.eq_1 @jJ.{0,0}) []
      ·rintro m ⟨hm,hfirst⟩;obtain⟨hG,hqn⟩:=hgood m hm;have hit:ZaB (Zau l f) (Zaz k st) (m+1)=ZbE (Zau l f) (ZaB (Zau l f) (Zaz k st) m) (ZaB (Zau l f) (Zaz k st) m).2.2.length:=rfl;have hend:(ZaB (Zau l f) (Zaz k st) m).2.2.isEmpty=true->Zcg k (Zau l f) st=some (ZaB (Zau l f) (Zaz k st) m).1:=λ h=>by
        rw[Zcg,ZiB,ZqK (by omega) hfirst h];rfl
       have hnx:(ZaB (Zau l f) (Zaz k st) m).2.2.isEmpty=false->Zb1 (λ i=>(ZaB (Zau l f) (Zaz k st) i).2.2.isEmpty) (m+1)=none:=λ h=>ZqM hfirst h
       try dsimp only
       generalize ZaB (Zau l f) (Zaz k st) m=σ at hG hqn hit hend hnx|-;have hq40:k*(m+1)<=2048*2050:=zE hn (by omega);rcases hem:σ.2.2.isEmpty with _|_
       ·have hpos:0<σ.2.2.length:=by
         rcases qU σ.2.2.length with h|h
         ·rw[jP.1 h]at hem;cases hem
         ·exact h
        rcases uC k m with hbig|hsmall
        ·have e:Zcg k (Zau l f) st=none:=by
          have:m+1=k+2:=by omega
          have h2:=hnx hem;rw[this]at h2;rw[Zcg,ZiB,h2];rfl
         rw[e]at hro;obtain⟨rfl,rfl⟩:=hro;refine kw1 kP kc0 kc0 ?_;refine kR kc0 [(2000,900)] [(4, .nilS),(5, .bool false)] [(2000, .dead)] ?_;refine Za0 ?_;exact⟨⟨_,rfl,rfl,rfl,trivial⟩,uO.2 ⟨rfl,yC _⟩⟩
        ·refine kw1 kP kc0 kc0 ?_;refine Zaq _ (Zc3 14 900 1 rfl rfl) ?_;refine Zae (λ(j:Nat)=>j<=σ.2.2.length) (λ j=>[(0, .d (pD k l f)),(6, .d (.sl (Zi2 k l f))),(7, .ref 27 7 0 k k),(12, .ref 55 1 0 k k),(13, .int ((m:Int)+1)),(14, .ref 900 1 0 (ZbE (Zau l f) σ j).2.2.length (ZbE (Zau l f) σ j).2.2.length),(68, .d (Zab σ.2.2)),(69, .int σ.2.2.length),(70, .int j)]) (λ j=>[(27, .row 7 (Zeh (ZbE (Zau l f) σ j).1)),(55, .row 1 (ZmC (ZbE (Zau l f) σ j).2.1)),(900, .row 1 (intsL (ZbE (Zau l f) σ j).2.2))]) (λ j=>σ.2.2.length-j) 0 ?_ ?_ ?_
         ·exact uG _
         ·exact kN (kc1 @Zzf) []
         ·intro j hj;rcases uC j σ.2.2.length with hjl|hjg
          ·obtain⟨x,hx⟩:=Zac hjl;have hxi:=hG.2.2.1 x (uA hx);obtain⟨v,rfl⟩:∃v:Nat,x=v:=⟨x.toNat,by omega⟩;have hmg:=ZnA hG hSL j (by omega);have hin:=Zq9 hmg (v:=(v:Int)) (L:=Zau l f v) (by omega) (by omega) (hSL v (by omega));have hms:=ZjS (ST:=Zau l f) hx;rw[uK]at hms;have hcnt:∀τ:LS,ZeJ k (70437463654400*m+16777216*j+16777216) (j+1) τ->τ.2.2.length<=4300000:=λ τ h=>by
            have h1:=h.2.2.2.2;have h2:τ.2.1.count true<=k:=by rw[<-h.2.1];exact List.count_le_length
            omega
           try dsimp only
           generalize ZbE (Zau l f) σ j=μ at hmg hin hms|-;have hs:=ZlW l f v l.length;have hsl:(ZdC l f l.length v)=(Zau l f v).map stD:=rfl;have hsr:(List.map (λ v=>D.sl (ZdC l f l.length v)) (List.range k))[v]? =some (.sl ((Zau l f v).map stD)):=by simp[show v<k by omega];rfl
           rw[hsl,uD]at hs;have gb:μ.2.1[v]? =some (bAt μ.2.1 v):=Zms (v:=(v:Int)) hmg.2.1 (by omega) (by omega);have l1:=hmg.1;have l2:=hmg.2.1;refine kw1 kO (kc6 hx gb l1 l2 hsr @zW) kc0 ?_;refine Zae (λ(i:Nat)=>i<=(Zau l f v).length) (λ i=>[(0, .d (pD k l f)),(6, .d (.sl (Zi2 k l f))),(7, .ref 27 7 0 k k),(12, .ref 55 1 0 k k),(13, .int ((m:Int)+1)),(14, .ref 900 1 0 (inner (Zau l f v) v μ i).2.2.length (inner (Zau l f v) v μ i).2.2.length),(16, .int v),(68, .d (Zab σ.2.2)),(69, .int σ.2.2.length),(70, .int j),(80, .d (.sl ((Zau l f v).map stD))),(81, .int (Zau l f v).length),(82, .int i)]) (λ i=>[(27, .row 7 (Zeh (inner (Zau l f v) v μ i).1)),(55, .row 1 (ZmC (inner (Zau l f v) v μ i).2.1)),(900, .row 1 (intsL (inner (Zau l f v) v μ i).2.2))]) (λ i=>(Zau l f v).length-i) 0 ?_ ?_ ?_
           ·exact uG _
           ·exact kN (kc3 @Zx8 @yR.{0,0} @uK) []
           ·intro i hi;rcases uC i (Zau l f v).length with hil|hig
            ·obtain⟨s,hs2⟩:=Zac hil;obtain⟨hgi,hvi⟩:=hin i;have hsi:=hSL v (by omega) s (uA hs2);have hns:=ZjF (v:=(v:Int)) (σ:=μ) hs2;have hlq:=hcnt _ hgi
             try dsimp only
             generalize inner (Zau l f v) v μ i=τ at hgi hvi hns hlq|-;obtain⟨W,Bs,q⟩:=τ;obtain⟨to,len,bd,bk⟩:=s;obtain⟨u,rfl⟩:∃u:Nat,to=u:=⟨to.toNat,by have:=hsi.1;dsimp only at this;omega⟩;dsimp only at hsi hvi hlq hns;have g1:W.length=k:=hgi.1;have g2:Bs.length=k:=hgi.2.1;have gv:W[v]? =some (wAt W v):=Zeg (v:=(v:Int)) g1 (by omega) (by omega);have gu:W[u]? =some (wAt W u):=Zeg (v:=(u:Int)) g1 (by omega) (by omega);have gbu:Bs[u]? =some (bAt Bs u):=Zms (v:=(u:Int)) g2 (by omega) (by omega);have bv:=hgi.2.2.2.1 _ (uA gv);have bu:=hgi.2.2.2.1 _ (uA gu);have htk:(List.map D.int q).take q.length=List.map D.int q:=Zan _ _;rcases jC ((wAt W u).1<(wAt W v).1+len)with hlt|hlt
             ·rcases hbu:bAt Bs u with _|_
              ·rw[ZBi hlt hbu]at hns;rw[hbu]at gbu;dsimp only at hns;rw[uK]at hns;refine kw1 kO (kc8 hs2 gv gu gbu g1 g2 htk @yJ.{0}) kc0 ?_;refine⟨i+1,?_,kN (kc4 hns @yR.{0,0} @uR.{0,0} @uH.{0}) [(900,124)],?_⟩
               ·omega
               ·omega
              ·rw[ZBm hlt hbu]at hns;rw[hbu]at gbu;dsimp only at hns;rw[uK]at hns;refine kw1 kO (kc8 hs2 gv gu gbu g1 g2 htk @yJ.{0}) kc0 ?_;refine⟨i+1,?_,kN (kc2 hns @yR.{0,0}) [],?_⟩
               ·omega
               ·omega
             ·rw[ZBj hlt]at hns;refine kw1 kO (kc8 hs2 gv gu gbu g1 g2 htk @yJ.{0}) kc0 ?_;refine⟨i+1,?_,kN (kc2 hns @yR.{0,0}) [],?_⟩
              ·omega
              ·omega
            ·have:i=(Zau l f v).length:=by omega
             subst this;refine kw1 kO kc0 kc0 ?_;refine⟨j+1,?_,kN (kc1 hms) [],?_⟩
             ·omega
             ·omega
          ·have:j=σ.2.2.length:=by omega
           subst this;have hmg:=ZnA hG hSL σ.2.2.length (uI _);rw[<-hit]at hmg;have hnx:=hnx hem
           try dsimp only
           rw[<-hit];generalize hnext:ZaB (Zau l f) (Zaz k st) (m+1)=τ at hmg|-;refine Zaq _ (Zc2 900 1 _ rfl (ZcS _ rfl) (by decide)) ?_;refine kw1 kO (kc2 @qN.{0} @Zan) kc0 ?_;refine⟨m+1,?_,kN (kc5 @hnext @qN.{0} @Zan @qQ @gY) [],?_⟩
           ·exact⟨by omega,hnx⟩
           ·omega
       ·have e:=hend hem;have h0:σ.2.2.length=0:=by
         rw[Ag]at hem;rw[hem];rfl
        rw[e]at hro;obtain⟨rfl,rfl⟩:=hro;refine kw1 kP (kc1 h0) kc0 ?_;refine kR kc0 [(2000,27)] [(4, .ref 2000 7 0 _ _),(5, .bool true)] [(2000, .row 7 _)] ?_;refine Za0 ?_;exact⟨⟨_,rfl,rfl,rfl,trivial⟩,uO.2 ⟨rfl,yC _⟩⟩
 refine⟨λ W hW=>main _ _ (by rw[hW];exact⟨rfl,rfl⟩),λ hN=>main _ _ (by rw[hN];exact⟨rfl,rfl⟩)⟩
def Zaj (W:List Way)(v:Int):Nat->Int
 |0=>v
 |k+1=>(wAt W (Zaj W v k)).2.1
def Zax (W:List Way)(v:Int)(k:Nat):Stp:=(wAt W (Zaj W v k)).2.2.1
def Zcm (W:List Way)(f:List Int)(m0 v:Int):Nat->Int
 |0=>m0
 |k+1=>if(Zax W v k).2.2.2 then min (Zcm W f m0 v k) (at0 f (Zax W v k).2.2.1)else Zcm W f m0 v k
def Zbv (W:List Way)(f:List Int)(m v:Int):Nat->List Int
 |0=>f
 |k+1=>(Zbv W f m v k).set (Zax W v k).2.2.1.toNat (at0 (Zbv W f m v k) (Zax W v k).2.2.1+(if(Zax W v k).2.2.2 then -m else m))
theorem ZdU (W:List Way)(v:Int)(k:Nat):Zaj W v (k+1)=(wAt W (Zaj W v k)).2.1:=rfl
theorem Zlo (W:List Way)(f:List Int)(m0 v:Int)(k:Nat):Zcm W f m0 v (k+1)=if(Zax W v k).2.2.2 then min (Zcm W f m0 v k) (at0 f (Zax W v k).2.2.1)else Zcm W f m0 v k:=rfl
theorem Zki (W:List Way)(f:List Int)(m v:Int)(k:Nat):Zbv W f m v (k+1)=(Zbv W f m v k).set (Zax W v k).2.2.1.toNat (at0 (Zbv W f m v k) (Zax W v k).2.2.1+(if(Zax W v k).2.2.2 then -m else m)):=rfl
def Ze7 (W:List Way)(f nd:List Int)(t:Int)(K:Nat):Int:=min (Zcm W f (at0 nd t) t K) (-(at0 nd (Zaj W t K)))
theorem Zoo (W:List Way)(f nd:List Int)(t:Int)(K:Nat):Ze7 W f nd t K=min (Zcm W f (at0 nd t) t K) (-(at0 nd (Zaj W t K))):=rfl
theorem Zgd (W:List Way)(f:List Int)(m v:Int):∀k,(Zbv W f m v k).length=f.length
 |0=>rfl
 |k+1=>by simp[Zbv,Zgd W f m v k]
theorem Ztv {W:List Way}{f:List Int}{m v F M:Int}(hf:Zci f F)(hM:0<=M)(hm:-M<=m/\m<=M):∀k:Nat,Zci (Zbv W f m v k) (F+M*k)
 |0=>by simpa[Zbv]using hf
 |k+1=>by
  have ih:=Ztv (W:=W) (v:=v) hf hM hm k;have h1:=ih (Zax W v k).2.2.1;have e:F+M*((k+1:Nat):Int)=F+M*k+M:=by rw[qQ,gY,zH,Int.mul_one,zB]
  rw[e,Zbv];refine ZoY (Zgf ih (by omega)) ?_ ?_<;>split<;>omega
theorem ZnB {W:List Way}{f:List Int}{m0 v F:Int}(hf:Zci f F)(hm:-F<=m0/\m0<=F):∀k:Nat,-F<=Zcm W f m0 v k/\Zcm W f m0 v k<=F
 |0=>by simpa[Zcm]using hm
 |k+1=>by
  have ih:=ZnB (W:=W) (v:=v) hf hm k;have h1:=hf (Zax W v k).2.2.1;rw[Zcm];split<;>omega
def Zmg (n m:Nat)(W:List Way):Prop:=W.length=n/\∀w∈W,0<=w.2.1/\w.2.1<(n:Int)/\0<=w.2.2.1.2.2.1/\w.2.2.1.2.2.1<(m:Int)
theorem Zmt {n m:Nat}{W:List Way}{v:Int}(hW:Zmg n m W)(h0:0<=v)(hv:v<n):∀k,0<=Zaj W v k/\Zaj W v k<n
 |0=>⟨h0,hv⟩
 |k+1=>by
  obtain⟨h1,h2⟩:=Zmt hW h0 hv k;have:=hW.2 _ (uA (Zeg hW.1 h1 h2));exact⟨this.1,this.2.1⟩
abbrev pM (n:Nat)(l:List Bd)(m:Nat):Ob:= .cells [.int n, .d (Zbx l), .ref 1001 1 0 m m]
theorem ZCp (n:Nat)(l:List Bd)(f:List Int)(W:List Way)(t:Int)(nd:List Int)(K:Nat)(hn:n<=2048)(hW:Zmg n f.length W)(hndl:nd.length=n)
  (ht:0<=t/\t<n)(hK:K<=n)(h1:∀j,j<K->(wAt W (Zaj W t j)).2.2.2=false)(h2:(wAt W (Zaj W t K)).2.2.2=true)(hf:Zci f 1125899906842624)(hnd:Zci nd 1125899906842624):
  Zah Tryz.prog 213 [.ptr 1000 0 0 0, .d (.sl (Zeh W)), .int t, .ref 1002 1 0 n n] [(1000,pM n l f.length),(1001, .row 1 (intsL f)),(1002, .row 1 (intsL nd))]
   (.tup [.int (Zaj W t K), .int (Ze7 W f nd t K)]) [(1000,pM n l f.length),(1001, .row 1 (intsL (Zbv W f (Ze7 W f nd t K) t K))),(1002, .row 1 (intsL nd))]:=by
 have hbk:=Zmt hW ht.1 ht.2;have hms:=ZnB (W:=W) (v:=t) (m0:=at0 nd t) hf (hnd t);have hst:∀k,∃b:Nat,(Zax W t k).2.2.1=b/\b<f.length:=by
  intro k;have:=hW.2 _ (uA (Zeg hW.1 (hbk k).1 (hbk k).2));exact⟨(Zax W t k).2.2.1.toNat,by rw[Zax];omega,by rw[Zax];omega⟩
 refine kM Tryz.func213 ?_;intro B X w0;obtain⟨t',rfl⟩:∃t':Nat,t=t':=⟨t.toNat,by omega⟩;have gnt:=at0_at (r:=nd) (i:=t') (by omega);have hWl:=hW.1;refine kw1 kO (kc2 gnt hndl) kc0 ?_;refine Zae (λ(k:Nat)=>k<=K) (λ k=>[(0, .ptr 1000 0 0 0),(1, .d (.sl (Zeh W))),(2, .int t'),(3, .ref 1002 1 0 n n),(10, .int (Zaj W t' k)),(11, .int (Zcm W f (at0 nd t') t' k)),(12, .int (Zaj W t' k))]) (λ k=>[(1000,pM n l f.length),(1001, .row 1 (intsL f)),(1002, .row 1 (intsL nd))]) (λ k=>K-k) 0 ?_ ?_ ?_
 ·exact uG _
 ·exact kN (kc2 @Zaj.eq_1 @Zcm.eq_1) []
 ·intro k hk;obtain⟨b,hb1,hb2⟩:=hst k;have gb:=at0_at hb2;have hbb:=hf b;have hmk:=hms k;have hmn:=Zlo W f (at0 nd t') t' k;have hbn:=ZdU W t' k;obtain⟨hv1,hv2⟩:=hbk k;have hgb:(wAt W (Zaj W t' k)).2.2.2=decide (k=K):=by
   rcases jC (k=K)with h|h
   ·rw[h,h2];simp
   ·rw[h1 k (by omega),uU h]
  rw[hb1]at hmn;rw[Zax]at hb1 hmn;obtain⟨v,hv⟩:∃v:Nat,Zaj W t' k=v:=⟨(Zaj W t' k).toNat,by omega⟩;rw[hv]at hv1 hv2 hbn hgb hmn hb1;have gv:W[v]? =some (wAt W v):=Zeg (v:=(v:Int)) hWl hv1 hv2;rcases uC k K with hlt|hge
  ·rw[uU (show k≠K by omega)]at hgb;generalize hw:wAt W v=w at gv hbn hgb hmn hb1;obtain⟨lg,fr,⟨s1,s2,s3,s4⟩,bg⟩:=w;dsimp only at hbn hgb hmn hb1;subst hgb;cases s4 with
   |false=>
    rw[if_neg (by decide)]at hmn;refine kw1 kO (kc4 gv hv hWl hb1) kc0 ?_;refine⟨k+1,?_,kN (kc2 hbn hmn) [],?_⟩
    ·omega
    ·omega
   |true=>
    rw[if_pos rfl]at hmn;refine kw1 kO (kc6 gv hv hWl hb1 gb @ZfZ) kc0 ?_;refine⟨k+1,?_,kN (kc2 hbn hmn) [],?_⟩
    ·omega
    ·omega
  ·have:k=K:=by omega
   subst this;rw[yB rfl]at hgb;have gnv:=at0_at (r:=nd) (i:=v) (by omega);have hnv:=hnd v;have hsm:=Zoo W f nd t' k;rw[hv]at hsm;have hsent:=Ztv (W:=W) (v:=(t':Int)) (m:=Ze7 W f nd t' k) (M:=1125899906842624) hf (by omega) (by omega);have hfr:Zaj W t' k=v:=hv;refine kw1 kP (kc7 gv hv hWl hgb gnv hndl @ZfZ) kc0 ?_;rw[<-hsm];generalize Ze7 W f nd t' k=m at hsm hsent|-;refine Zae (λ(j:Nat)=>j<=k) (λ j=>[(0, .ptr 1000 0 0 0),(1, .d (.sl (Zeh W))),(10, .int v),(11, .int m),(14, .int (Zaj W t' j))]) (λ j=>[(1000,pM n l f.length),(1001, .row 1 (intsL (Zbv W f m t' j))),(1002, .row 1 (intsL nd))]) (λ j=>k-j) 0 ?_ ?_ ?_
   ·exact uG _
   ·exact kN (kc2 @Zaj.eq_1 @Zbv.eq_1) []
   ·intro j hj;obtain⟨b,hb1,hb2⟩:=hst j;have hsl:=Zgd W f m t' j;have gb:=at0_at (r:=Zbv W f m t' j) (i:=b) (by omega);have hbb:=hsent j b;have hmn:=Zki W f m t' j;have hbn:=ZdU W t' j;obtain⟨hv1,hv2⟩:=hbk j;have hgj:(wAt W (Zaj W t' j)).2.2.2=decide (j=k):=by
     rcases jC (j=k)with h|h
     ·rw[h,h2];simp
     ·rw[h1 j (by omega),uU h]
    rw[hb1,uK]at hmn;rw[Zax]at hb1 hmn;obtain⟨u,hu⟩:∃u:Nat,Zaj W t' j=u:=⟨(Zaj W t' j).toNat,by omega⟩;rw[hu]at hv1 hv2 hbn hgj hmn hb1;have gu:W[u]? =some (wAt W u):=Zeg (v:=(u:Int)) hWl hv1 hv2;rcases uC j k with hlt|hge2
    ·rw[uU (show j≠k by omega)]at hgj;generalize hw:wAt W u=w at gu hbn hgj hmn hb1;obtain⟨lg,fr,⟨s1,s2,s3,s4⟩,bg⟩:=w;dsimp only at hbn hgj hmn hb1;subst hgj;cases s4 with
     |false=>
      rw[if_neg (by decide)]at hmn;refine kw1 kO (kc6 gu hu hWl hb1 gb hsl) kc0 ?_;refine⟨j+1,?_,kN (kc3 hbn hmn @yR.{0,0}) [],?_⟩
      ·omega
      ·omega
     |true=>
      rw[if_pos rfl]at hmn;refine kw1 kO (kc6 gu hu hWl hb1 gb hsl) kc0 ?_;refine⟨j+1,?_,kN (kc4 hbn hmn @yR.{0,0} @Cs) [],?_⟩
      ·omega
      ·omega
    ·have:j=k:=by omega
     subst this;rw[yB rfl]at hgj;refine kw1 kP (kc4 gu hu hWl hgj) kc0 ?_;refine Za0 ?_;exact⟨⟨_,rfl,rfl,rfl,trivial⟩,uO.2 ⟨rfl,uO.2 ⟨rfl,uO.2 ⟨rfl,yC _⟩⟩⟩⟩
def Zg7 (nd:List Int)(v:Nat):List Int:=if at0 nd v<0 then[(v:Int)]else[]
def Zb2 (nd:List Int)(k:Nat):List Int:=Za5 (Zg7 nd) k
def ZaQ (W:List Way)(nd:List Int):Nat->Int
 |0=>-1
 |k+1=>if 0<at0 nd k/\-576460752303423488<(wAt W k).1/\(ZaQ W nd k<0\/(wAt W (ZaQ W nd k)).1<(wAt W k).1)then k else ZaQ W nd k
def Zoy (W:List Way)(t:Int)(m:Nat):Option Nat:=Zb1 (λ k=>(wAt W (Zaj W t k)).2.2.2) m
def Zif (n m:Nat)(W:List Way):Bool:=decide (W.length=n)&&W.all λ w=>decide (0<=w.2.1/\w.2.1<(n:Int)/\0<=w.2.2.1.2.2.1/\w.2.2.1.2.2.1<(m:Int))
def inB (f:List Int):Bool:=f.all λ x=>decide (-1125899906842624<=x/\x<=1125899906842624)
def ZkZ (n:Nat)(l:List Bd)(f nd:List Int):Option (List Int×List Int):=
 match Zcg n (Zau l f) (Zb2 nd n)with
 |none=>none
 |some W=>match Zoy W (ZaQ W nd n) (n+1)with
  |none=>none
  |some K=>if(decide (0<=ZaQ W nd n)&&Zif n l.length W&&inB f&&inB nd)=true then
   some (Zbv W f (Ze7 W f nd (ZaQ W nd n) K) (ZaQ W nd n) K,
    (nd.set (Zaj W (ZaQ W nd n) K).toNat (at0 nd (Zaj W (ZaQ W nd n) K)+Ze7 W f nd (ZaQ W nd n) K)).set (ZaQ W nd n).toNat
     (at0 (nd.set (Zaj W (ZaQ W nd n) K).toNat (at0 nd (Zaj W (ZaQ W nd n) K)+Ze7 W f nd (ZaQ W nd n) K)) (ZaQ W nd n)-Ze7 W f nd (ZaQ W nd n) K))else none
def Zgl (n:Nat)(l:List Bd):Nat->List Int->List Int->Option (List Int)
 |0,_,_=>none
 |r+1,f,nd=>if(Zb2 nd n).isEmpty then some f else match ZkZ n l f nd with
  |none=>none
  |some s=>Zgl n l r s.1 s.2
theorem Zlc {f:List Int}(h:inB f=true):Zci f 1125899906842624:=by
 intro v;rw[at0];cases hx:f[v.toNat]? with
 |none=>simp
 |some x=>
  simp only[inB,uZ,uF]at h;exact h x (uA hx)
theorem ZEg {n m:Nat}{W:List Way}(h:Zif n m W=true):Zmg n m W:=by
 simp only[Zif,uM,uF,uZ]at h;exact h
theorem Zm7 {p:Nat->Bool}:∀{m k:Nat},Zb1 p m=some k->k<m/\p k=true/\∀j,j<k->p j=false:=by
 intro m
 induction m with
 |zero=>intro k h;simp[Zb1]at h
 |succ m ih=>
  intro k h;rw[Zb1]at h;cases hm:Zb1 p m with
  |some j=>
   rw[hm]at h;simp only[yM]at h;subst h;obtain⟨h1,h2,h3⟩:=ih hm;exact⟨by omega,h2,h3⟩
  |none=>
   rw[hm]at h;have hno:∀j,j<m->p j=false:=by
    intro j hj;cases hp:p j with
    |false=>rfl
    |true=>
     exfalso;have key:∀m,j<m->Zb1 p m≠none:=by
      intro m
      induction m with
      |zero=>intro h;omega
      |succ m ih2=>
       intro hjm hn;rw[Zb1]at hn;cases hq:Zb1 p m with
       |some i=>rw[hq]at hn;simp at hn
       |none=>
        rw[hq]at hn;rcases uC j m with h|h
        ·exact ih2 h hq
        ·have:j=m:=by omega
         subst this;simp[hp]at hn
     exact key m hj hm
   by_cases hp:p m=true
   ·simp[hp]at h;subst h;exact⟨by omega,hp,hno⟩
   ·simp[hp]at h
theorem ZjV (nd:List Int):∀k,(∀x∈Zb2 nd k,0<=x/\x<(k:Int))/\(Zb2 nd k).length<=k
 |0=>by simp[Zb2,Za5]
 |k+1=>by
  obtain⟨h1,h2⟩:=ZjV nd k;simp only[Zb2,Za5]at h1 h2|-;refine⟨λ x hx=>?_,?_⟩
  ·rcases yO.1 hx with hx|hx
   ·have:=h1 x hx;omega
   ·rw[Zg7]at hx;split at hx
    ·rw[uT.1 hx];omega
    ·simp at hx
  ·rw[uH,Zg7];split<;>simp<;>omega
theorem Zlx (W:List Way)(nd:List Int):∀k,ZaQ W nd k<(k:Int)/\-1<=ZaQ W nd k
 |0=>by simp[ZaQ]
 |k+1=>by
  have:=Zlx W nd k;rw[ZaQ];split<;>omega
theorem Zwm (n:Nat)(l:List Bd)(f0 f1:List Int)(R:Nat)(hg:nOk (n,l)=true)(hfl:f0.length=l.length)(hc:Zgl n l R f0 (ZbR l n l.length)=some f1):
  Zah Tryz.prog 162 [.ptr 1000 0 0 0] [(1000,pM n l l.length),(1001, .row 1 (intsL f0))] (.tup []) [(1000,pM n l l.length),(1001, .row 1 (intsL f1))]:=by
 obtain⟨h1,h2,h3,h4⟩:=Zft hg;dsimp only at h1 h2 h3 h4;have hneed:=Zzq n l f0 hg;have hnl:=ZiP l n l.length;generalize ZbR l n l.length=nd0 at hc hneed hnl;refine kM Tryz.func162 ?_;intro B X w0;have htk0:(f0.map D.int).take l.length=f0.map D.int:=by rw[<-hfl];exact Zan _ _
 refine kw1 kO (kc3 hfl htk0 @qN.{0}) (kc1 (kfc [(2000,14)] hneed)) ?_;refine Zae (λ(q:Nat×List Int×List Int)=>match q with|⟨r,f,nd⟩=>Zgl n l r f nd=some f1/\f.length=l.length/\nd.length=n) (λ⟨r,f,nd⟩=>[(0, .ptr 1000 0 0 0),(2, .ref 14 1 0 n n)]) (λ⟨r,f,nd⟩=>[(1000,pM n l l.length),(1001, .row 1 (intsL f)),(14, .row 1 (intsL nd))]) (λ⟨r,f,nd⟩=>r) (R,f0,nd0) ?_ ?_ ?_
 ·exact⟨hc,hfl,hnl⟩
 ·exact kN kc0 []
 ·rintro⟨r,f,nd⟩ ⟨hcf,hfl,hnl⟩
  try dsimp only
  cases r with
  |zero=>rw[Zgl]at hcf;cases hcf
  |succ r=>
   rw[Zgl]at hcf;refine kw1 kO kc0 kc0 ?_;refine Zaq _ (Zc3 3 900 1 rfl rfl) ?_;refine Zae (λ(i:Nat)=>i<=n) (λ i=>[(0, .ptr 1000 0 0 0),(2, .ref 14 1 0 n n),(3, .ref 900 1 0 (Zb2 nd i).length (Zb2 nd i).length),(15, .ref 14 1 0 n n),(16, .int n),(17, .int i)]) (λ i=>[(1000,pM n l l.length),(1001, .row 1 (intsL f)),(14, .row 1 (intsL nd)),(900, .row 1 (intsL (Zb2 nd i)))]) (λ i=>n-i) 0 ?_ ?_ ?_
   ·exact uG _
   ·exact kN kc0 []
   ·intro i hi;rcases uC i n with hin|hin
    ·have gi:=at0_at (r:=nd) (i:=i) (by omega);have hns:Zb2 nd (i+1)=Zb2 nd i++Zg7 nd i:=rfl;have hnl2:=(ZjV nd i).2;rcases jC (at0 nd i<0)with hneg|hneg
     ·rw[Zg7,if_pos hneg]at hns;refine kw1 kO (kc3 gi hnl @Zan) kc0 ?_;refine⟨i+1,?_,kN (kc3 hns @uR.{0,0} @uH.{0}) [(900,27)],?_⟩
      ·omega
      ·omega
     ·rw[Zg7,if_neg hneg,yT]at hns;refine kw1 kO (kc3 gi hnl @Zan) kc0 ?_;refine⟨i+1,?_,kN (kc1 hns) [],?_⟩
      ·omega
      ·omega
    ·have:i=n:=by omega
     subst this;obtain⟨hs1,hs2⟩:=ZjV nd i;refine Zaq _ (Zc2 900 1 _ rfl (ZcS _ rfl) (by decide)) ?_;rcases hem:(Zb2 nd i).isEmpty with _|_
     ·rw[hem]at hcf;rw[if_neg (by decide),ZkZ]at hcf;have hpos:0<(Zb2 nd i).length:=by
       rcases qU (Zb2 nd i).length with h|h
       ·rw[jP.1 h]at hem;cases hem
       ·exact h
      have hlong:=(Zlk i l f (Zb2 nd i) (by omega) (by omega) hfl (λ k b hb=>by have:=h4 k b hb;omega) hs1 hs2).1;cases hW:Zcg i (Zau l f) (Zb2 nd i)with
      |none=>rw[hW]at hcf;cases hcf
      |some W=>
       rw[hW]at hcf;have hlong:=hlong W hW;dsimp only at hcf;cases hK:Zoy W (ZaQ W nd i) (i+1)with
       |none=>rw[hK]at hcf;cases hcf
       |some K=>
        rw[hK]at hcf;dsimp only at hcf;by_cases hcond:(decide (0<=ZaQ W nd i)&&Zif i l.length W&&inB f&&inB nd)=true
        ·rw[if_pos hcond]at hcf;dsimp only at hcf;simp only[uM,uF]at hcond;obtain⟨⟨⟨c1,c2⟩,c3⟩,c4⟩:=hcond;obtain⟨k1,k2,k3⟩:=Zm7 hK;have hWI:=ZEg c2;have hpk:=Zlx W nd i;have hsend:=ZCp i l f W (ZaQ W nd i) nd K (by omega) (hfl▸hWI) hnl ⟨c1,hpk.1⟩ (by omega) k3 k2 (Zlc c3) (Zlc c4);rw[hfl]at hsend;have hnw:=Zlc c4;have hmm:=ZnB (W:=W) (v:=ZaQ W nd i) (m0:=at0 nd (ZaQ W nd i)) (Zlc c3) (hnw _) K;have hsl:=Zgd W f (Ze7 W f nd (ZaQ W nd i) K) (ZaQ W nd i) K;have hbk:=Zmt hWI c1 hpk.1 K;have hWl:=hWI.1;have htkf:(f.map D.int).take l.length=f.map D.int:=by rw[<-hfl];exact Zan _ _
         refine kw1 kO (kc5 hfl hnl htkf @Zan @qN.{0}) (kc1 (kfc [(2000,35)] hlong)) ?_;refine Zae (λ(u:Nat)=>u<=i) (λ u=>[(0, .ptr 1000 0 0 0),(2, .ref 14 1 0 i i),(6, .ref 35 7 0 i i),(8, .int (ZaQ W nd u)),(38, .ref 14 1 0 i i),(39, .int i),(40, .int u)]) (λ u=>[(1000,pM i l l.length),(1001, .row 1 (intsL f)),(14, .row 1 (intsL nd)),(35, .row 7 (Zeh W))]) (λ u=>i-u) 0 ?_ ?_ ?_
         ·exact uG _
         ·exact kN kc0 []
         ·intro u hu;rcases uC u i with hui|hui
          ·have gn:=at0_at (r:=nd) (i:=u) (by omega);have gw:W[u]? =some (wAt W u):=Zeg (v:=(u:Int)) hWl (by omega) (by omega);obtain⟨q1,q2⟩:=Zlx W nd u;have hps:ZaQ W nd (u+1)=if 0<at0 nd u/\-576460752303423488<(wAt W u).1/\(ZaQ W nd u<0\/(wAt W (ZaQ W nd u)).1<(wAt W u).1)then(u:Int)else ZaQ W nd u:=rfl
           generalize ZaQ W nd u=p at q1 q2 hps|-;rcases Bg p 0 with hp|hp
           ·rcases jC (0<at0 nd u/\-576460752303423488<(wAt W u).1)with hq|hq
            ·rw[if_pos ⟨hq.1,hq.2, .inl hp⟩]at hps;refine kw1 kO (kc4 gn gw hWl hnl) kc0 ?_
             all_goals
              refine⟨u+1,?_,kN (kc1 hps) [],?_⟩
              ·omega
              ·omega
            ·rw[if_neg (by omega)]at hps;refine kw kO (kc4 gn gw hWl hnl) kc0 ?_
             repeat' first|exact True.intro|refine Bn.mk ?_ ?_|intro hc
             all_goals
              refine⟨u+1,?_,kN (kc1 hps) [],?_⟩
              ·omega
              ·omega
           ·obtain⟨p',rfl⟩:∃p':Nat,p=p':=⟨p.toNat,by omega⟩;have gp:W[p']? =some (wAt W p'):=Zeg (v:=(p':Int)) hWl (by omega) (by omega);rcases jC (0<at0 nd u/\-576460752303423488<(wAt W u).1/\(wAt W p').1<(wAt W u).1)with hq|hq
            ·rw[if_pos ⟨hq.1,hq.2.1, .inr hq.2.2⟩]at hps;refine kw1 kO (kc5 gn gw gp hWl hnl) kc0 ?_
             all_goals
              refine⟨u+1,?_,kN (kc1 hps) [],?_⟩
              ·omega
              ·omega
            ·rw[if_neg (by omega)]at hps;refine kw kO (kc5 gn gw gp hWl hnl) kc0 ?_
             repeat' first|exact True.intro|refine Bn.mk ?_ ?_|intro hc
             all_goals
              refine⟨u+1,?_,kN (kc1 hps) [],?_⟩
              ·omega
              ·omega
          ·have:u=i:=by omega
           subst this;refine Zaq _ (Zc2 35 7 _ rfl (ZcS _ rfl) (by decide)) ?_;have htkw:(W.map Zl4).take u=W.map Zl4:=by rw[<-hWl];exact Zan _ _
           have hsm:=Zoo W f nd (ZaQ W nd u) K;obtain⟨p,hp⟩:∃p:Nat,ZaQ W nd u=p:=⟨(ZaQ W nd u).toNat,by omega⟩;obtain⟨s,hs⟩:∃s:Nat,Zaj W (ZaQ W nd u) K=s:=⟨(Zaj W (ZaQ W nd u) K).toNat,by omega⟩;rw[hs]at hsend hcf hbk hsm;rw[hp]at hsend hcf hpk hsm hmm;rw[uK,uK]at hcf;have gs:=at0_at (r:=nd) (i:=s) (by omega);have gp:=at0_at (r:=nd) (i:=p) (by omega);have ns:=hnw s;have np:=hnw p;generalize Ze7 W f nd p K=m at hsend hcf hsm;have gq:((List.map D.int nd).set s (D.sc (.int .i64 (at0 nd s+m))))[p]? =some (D.int (at0 (nd.set s (at0 nd s+m)) p)):=by
            rw[<-yR,uJ,at0_at (by rw[yJ];omega)];rfl
           have hq2:-2251799813685248<=at0 (nd.set s (at0 nd s+m)) p/\at0 (nd.set s (at0 nd s+m)) p<=2251799813685248:=by
            rw[Zel _ _ _ _ (by omega)];split<;>omega
           refine kw1 kO (kc8 hp hfl hnl hWl htkw @qN.{0} gs (kc2 gq @yJ.{0})) (kc1 (kmc [(1000,1000),(1001,1001),(1002,14)] hsend)) ?_;refine⟨(r,Zbv W f m p K,(nd.set s (at0 nd s+m)).set p (at0 (nd.set s (at0 nd s+m)) p-m)),?_,kN (kc1 @yR.{0,0}) [],?_⟩
           ·exact⟨hcf,by rw[Zgd,hfl],by rw[yJ,yJ,hnl]⟩
           ·show r<r+1;omega
        ·rw[if_neg hcond]at hcf;cases hcf
     ·rw[hem,if_pos rfl]at hcf;cases hcf;have h0:(Zb2 nd i).length=0:=by
       rw[Ag]at hem;rw[hem];rfl
      refine kw1 kP (kc1 h0) kc0 ?_;refine Za0 ?_;exact⟨⟨_,rfl,trivial⟩,uO.2 ⟨rfl,uO.2 ⟨rfl,yC _⟩⟩⟩
def zeros (l:List Bd):List Int:=List.replicate l.length 0
theorem ZkG (n:Nat):(∀x∈Zcd n,0<=x/\x<(n:Int))/\(Zcd n).length=n:=by
 refine⟨λ x hx=>?_,by simp[Zcd]⟩;obtain⟨u,hu,rfl⟩:=uP.1 hx;have:=yA.1 hu;omega
theorem Zsn (n:Nat)(l:List Bd):pD n l (zeros l)= .pt [.int n,Zbx l, .sl (List.replicate l.length (D.sc (.int .i64 0)))]:=by simp[pD,zeros]
theorem ZuX (n:Nat)(l:List Bd)(hg:nOk (n,l)=true)(hno:Zcg n (Zau l (zeros l)) (Zcd n)=none):
  Zah Tryz.prog 96 [.d (nD (n,l))] [(2000, .dead),(2001, .dead)] (.tup [.nilS, .nilS, .int 9]) [(2000, .dead),(2001, .dead)]:=by
 have hv:Zaa Tryz.prog 159 [nD (n,l)] (.bool true):=hg▸Zgg (n,l);obtain⟨h1,h2,h3,h4⟩:=Zft hg;dsimp only at h1 h2 h3 h4;obtain⟨a1,a2⟩:=ZkG n;have hall:=Zml n l (zeros l) (by omega);have hlong:=(Zlk n l (zeros l) (Zcd n) (by omega) (by omega) (by simp[zeros]) (λ k b hb=>by have:=h4 k b hb;omega) a1 (by omega)).2 hno;have htk:(List.replicate l.length (D.sc (.int .i64 0))).take l.length=List.replicate l.length (D.sc (.int .i64 0)):=uE (by simp);have htk2:((Zcd n).map D.int).take n=(Zcd n).map D.int:=uE (by simp[a2]);rw[Zsn]at hall hlong;refine kM Tryz.func96 ?_;intro B X w0;refine kw1 kP (kc6 htk htk2 a2 @qN.{0} @jJ.{0,0} @qX.{0}) (kc3 hv (kfc [(2000,25)] hall) (kfc [(2000,26)] hlong)) ?_;refine Za0 ?_;exact⟨⟨_,rfl,rfl,rfl,rfl,trivial⟩,uO.2 ⟨rfl,uO.2 ⟨rfl,yC _⟩⟩⟩
def Zet (W:List Way):List Int:=W.map (·.1)
theorem ZkD (n:Nat)(l:List Bd)(f:List Int)(R:Nat)(W0 W:List Way)(hg:nOk (n,l)=true)(h0:Zcg n (Zau l (zeros l)) (Zcd n)=some W0)
  (hc:Zgl n l R (zeros l) (ZbR l n l.length)=some f)(hfl:f.length=l.length)(hW:Zcg n (Zau l f) (Zcd n)=some W)(hWl:W.length=n):
  Zah Tryz.prog 96 [.d (nD (n,l))] [(2000, .dead),(2001, .dead)] (.tup [.ref 2000 1 0 n n, .ref 2001 1 0 l.length l.length, .int 0]) [(2000, .row 1 (intsL (Zet W))),(2001, .row 1 (intsL f))]:=by
 have hv:Zaa Tryz.prog 159 [nD (n,l)] (.bool true):=hg▸Zgg (n,l);obtain⟨h1,h2,h3,h4⟩:=Zft hg;dsimp only at h1 h2 h3 h4;obtain⟨a1,a2⟩:=ZkG n;have hall:=Zml n l (zeros l) (by omega);have hall2:=Zml n l f (by omega);have hlong:=(Zlk n l (zeros l) (Zcd n) (by omega) (by omega) (by simp[zeros]) (λ k b hb=>by have:=h4 k b hb;omega) a1 (by omega)).1 W0 h0;have hlong2:=(Zlk n l f (Zcd n) (by omega) (by omega) hfl (λ k b hb=>by have:=h4 k b hb;omega) a1 (by omega)).1 W hW;have hcert:=Zwm n l (zeros l) f R hg (by simp[zeros]) hc;have htk:(List.replicate l.length (D.sc (.int .i64 0))).take l.length=List.replicate l.length (D.sc (.int .i64 0)):=uE (by simp);have htk2:((Zcd n).map D.int).take n=(Zcd n).map D.int:=uE (by simp[a2]);have htk3:(f.map D.int).take l.length=f.map D.int:=uE (by simp[hfl]);have hz:intsL (zeros l)=List.replicate l.length (D.sc (.int .i64 0)):=by simp[zeros]
 rw[hz]at hcert;rw[Zsn]at hall hlong;refine kM Tryz.func96 ?_;intro B X w0;refine kw1 kP (kc8 htk htk2 htk3 a2 hfl @qN.{0} @jJ.{0,0} @qX.{0}) (kc6 hv (kfc [(2000,25)] hall) (kfc [(2000,26)] hlong) (kmc [(1000,21),(1001,19)] hcert) (kfc [(2000,36)] hall2) (kfc [(2000,37)] hlong2)) ?_;refine Zae (λ(k:Nat)=>k<=n) (λ k=>[(5, .ptr 21 0 0 0),(8, .ref 37 7 0 n n),(10, .ref 42 1 0 n n),(44, .int n),(45, .int k)]) (λ k=>[(21, .cells [.int n, .d (Zbx l), .ref 19 1 0 l.length l.length]),(19, .row 1 (intsL f)),(37, .row 7 (Zeh W)),(42, .row 1 ((Za9 (λ v=>(wAt W v).1) n k).map D.int))]) (λ k=>n-k) 0 ?_ ?_ ?_
 ·exact uG _
 ·exact kN (kc1 @ZhR) []
 ·intro k hk;have hlen:=Zdw (λ v=>(wAt W v).1) n k;rcases uC k n with hlt|hge
  ·have gw:W[k]? =some (wAt W k):=Zeg (v:=(k:Int)) hWl (by omega) (by omega);have hst:=ZhQ (g:=λ v=>(wAt W v).1) hlt;have gf:(Za9 (λ v=>(wAt W v).1) n k)[k]? =_:=Zfj hlt;refine kw1 kO (kc4 gw gf hWl hlen) kc0 ?_;refine⟨k+1,?_,kN (kc2 @hst.symm @yR.{0,0}) [],?_⟩
   ·omega
   ·omega
  ·refine kw1 kP kc0 kc0 ?_;have:k=n:=by omega
   subst this;have e:Za9 (λ v=>(wAt W v).1) k k=Zet W:=by
    rw[ZhP];refine yS λ u=>?_
    rw[Zet,uJ,uJ];rcases uC u k with hu|hu
    ·have gw:W[u]? =some (wAt W u):=Zeg (v:=(u:Int)) hWl (by omega) (by omega);rw[gw,qC hu];rfl
    ·rw[uL (by simpa using hu),uL (by omega)];rfl
   refine kR kc0 [(2000,42),(2001,19)] [(2, .ref 2000 1 0 _ _),(3, .ref 2001 1 0 _ _),(4, .int 0)] [(2000, .row 1 _),(2001, .row 1 _)] ?_;refine Za0 ?_;exact⟨⟨_,rfl,rfl,rfl,rfl,trivial⟩,uO.2 ⟨Zoh (by rw[e]),uO.2 ⟨rfl,yC _⟩⟩⟩
end Go.Proofs.YtjjbhjnpeenbkaaGreatDoor.Sx
