/- Longest ways: what the search does, and ZbU which bounds. -/
import Derived.Test.YtjjbhjnpeenbkaaGreatDoorBaF
set_option linter.unusedSimpArgs false
set_option linter.unusedVariables false
set_option maxHeartbeats 16000000
namespace Go.Proofs.YtjjbhjnpeenbkaaGreatDoor.Sx
open Go Go.PS Go.Proofs
abbrev Way :=Int×Int×Stp×Bool
abbrev Zkm (w:Way):D:= .ag [.int w.1, .int w.2.1, .int w.2.2.1.1, .int w.2.2.1.2.1, .int w.2.2.1.2.2.1, .bool w.2.2.1.2.2.2, .bool w.2.2.2]
def ZhN :Way:=(0,0,(0,0,0,false),false)
def Zdz :Way:=(-1152921504606846976,0,(0,0,0,false),false)
def ZcW :Way:=(0,0,(0,0,0,false),true)
abbrev LS :=List Way×List Bool×List Int
def wAt (W:List Way)(v:Int):Way:=(W[v.toNat]?).getD Zdz
def bAt (B:List Bool)(v:Int):Bool:=(B[v.toNat]?).getD true
def Za3 (v:Int)(σ:LS)(s:Stp):LS:=
 if(wAt σ.1 s.1).1<(wAt σ.1 v).1+s.2.1 then
  (σ.1.set s.1.toNat ((wAt σ.1 v).1+s.2.1,v,s,false),if bAt σ.2.1 s.1 then σ.2 else(σ.2.1.set s.1.toNat true,σ.2.2++[s.1]))
 else σ
def ZaZ (L:List Stp)(v:Int)(σ:LS)(i:Nat):LS:=(L.take i).foldl (Za3 v) (σ.1,σ.2.1.set v.toNat false,σ.2.2)
def ZzR (ST:Nat->List Stp)(σ:LS)(v:Int):LS:=ZaZ (ST v.toNat) v σ (ST v.toNat).length
def Zbi (ST:Nat->List Stp)(σ:LS)(j:Nat):LS:=(σ.2.2.take j).foldl (ZzR ST) (σ.1,σ.2.1,[])
def Zav (ST:Nat->List Stp)(σ:LS):Nat->LS
 |0=>σ
 |k+1=>Zbi ST (Zav ST σ k) (Zav ST σ k).2.2.length
theorem Zlj {α β:Type}{f:β->α->β}{l:List α}{k:Nat}{x:α}(a:β)(h:l[k]? =some x):(l.take (k+1)).foldl f a=f ((l.take k).foldl f a) x:=by
 rw[ZaD h,List.foldl_append];rfl
theorem Zij {L:List Stp}{v:Int}{σ:LS}{i:Nat}{s:Stp}(h:L[i]? =some s):ZaZ L v σ (i+1)=Za3 v (ZaZ L v σ i) s:=Zlj _ h
theorem Ziu {ST:Nat->List Stp}{σ:LS}{j:Nat}{v:Int}(h:σ.2.2[j]? =some v):Zbi ST σ (j+1)=ZaZ (ST v.toNat) v (Zbi ST σ j) (ST v.toNat).length:=Zlj _ h
def ZdU (n:Nat)(U:Int)(c:Nat)(σ:LS):Prop:=
 σ.1.length=n/\σ.2.1.length=n/\(∀x∈σ.2.2,0<=x/\x<(n:Int))/\(∀w∈σ.1,-1152921504606846976<=w.1/\w.1<=U)/\σ.2.2.length<=σ.2.1.count true+c
def Zgs (n:Nat)(v:Int)(L:List Stp):Prop:=∀s∈L,0<=s.1/\s.1<(n:Int)/\s.1≠v/\-16777216<=s.2.1/\s.2.1<=16777216
theorem Zte (l:List Bool):∀v,l.count true<=(l.set v false).count true+1:=by
 induction l with
 |nil=>intro v;simp
 |cons b l ih=>
  intro v;cases v with
  |zero=>cases b<;>simp
  |succ v=>have:=ih v;cases b<;>simp<;>omega
theorem Ztf (l:List Bool):∀v,l[v]? =some false->(l.set v true).count true=l.count true+1:=by
 induction l with
 |nil=>intro v h;simp at h
 |cons b l ih=>
  intro v h;cases v with
  |zero=>simp at h;subst h;simp
  |succ v=>have:=ih v (by simpa using h);cases b<;>simp<;>omega
theorem Zdy {W:List Way}{v:Int}{n:Nat}(hW:W.length=n)(h1:0<=v)(h2:v<(n:Int)):W[v.toNat]? =some (wAt W v):=by
 obtain⟨x,hx⟩:=Zad (show v.toNat<W.length by omega);rw[wAt,hx];rfl
theorem ZkG {W:List Bool}{v:Int}{n:Nat}(hW:W.length=n)(h1:0<=v)(h2:v<(n:Int)):W[v.toNat]? =some (bAt W v):=by
 obtain⟨x,hx⟩:=Zad (show v.toNat<W.length by omega);rw[bAt,hx];rfl
theorem Zgo {W:List Way}{u v:Int}{x:Way}(h1:0<=u)(h2:0<=v)(h3:v.toNat<W.length):wAt (W.set v.toNat x) u=if u=v then x else wAt W u:=by
 rw[wAt,qD];by_cases h:u=v
 ·subst h;rw[if_pos rfl,if_pos h3,if_pos rfl];rfl
 ·rw[if_neg (by omega),if_neg h];rfl
theorem ZwX {n c:Nat}{U v:Int}{σ:LS}{s:Stp}(h:ZdU n (U+16777216) c σ)(hv:(wAt σ.1 v).1<=U)(h0:0<=v)(hs:0<=s.1/\s.1<(n:Int)/\s.1≠v/\-16777216<=s.2.1/\s.2.1<=16777216):
  ZdU n (U+16777216) c (Za3 v σ s)/\(wAt (Za3 v σ s).1 v).1<=U:=by
 obtain⟨g1,g2,g3,g4,g5⟩:=h;obtain⟨s1,s2,s3,s4,s5⟩:=hs;rw[Za3];split
 ·rename_i hlt;have hold:=g4 _ (uA (Zdy g1 s1 s2));refine⟨⟨by simp[g1],?_,?_,?_,?_⟩,?_⟩
  ·split
   ·exact g2
   ·simp[g2]
  ·split
   ·exact g3
   ·intro x hx;rcases yN.1 hx with hx|hx
    ·exact g3 x hx
    ·rw[uR.1 hx];exact⟨s1,s2⟩
  ·intro w hw;rcases kD hw with hw|rfl
   ·exact g4 w hw
   ·dsimp only;omega
  ·split
   ·exact g5
   ·rename_i hb;have hb:bAt σ.2.1 s.1=false:=by simpa using hb
    have:=Ztf σ.2.1 s.1.toNat (by rw[ZkG g2 s1 s2,hb]);dsimp only;rw[uC,this,qN];omega
  ·dsimp only;rw[Zgo h0 s1 (by omega),if_neg (by omega)];exact hv
 ·exact⟨⟨g1,g2,g3,g4,g5⟩,hv⟩
theorem Zug {n c c':Nat}{U U':Int}{σ:LS}(h:ZdU n U c σ)(hU:U<=U')(hc:c<=c'):ZdU n U' c' σ:=by
 obtain⟨g1,g2,g3,g4,g5⟩:=h;exact⟨g1,g2,g3,λ w hw=>by have:=g4 w hw;omega,by omega⟩
theorem ZoL {n c:Nat}{U v:Int}{σ:LS}{L:List Stp}(h:ZdU n U c σ)(h0:0<=v)(hvn:v<(n:Int))(hL:Zgs n v L):
  ∀i,ZdU n (U+16777216) (c+1) (ZaZ L v σ i)/\(wAt (ZaZ L v σ i).1 v).1<=U:=by
 intro i
 induction i with
 |zero=>
  obtain⟨g1,g2,g3,g4,g5⟩:=h;have:=Zte σ.2.1 v.toNat;exact⟨⟨g1,by simp[ZaZ,g2],g3,λ w hw=>by have:=g4 w hw;omega,by simp only[ZaZ,yY,Bz];omega⟩,(g4 _ (uA (Zdy g1 h0 hvn))).2⟩
 |succ i ih=>
  rcases uF i L.length with hi|hi
  ·obtain⟨s,hs⟩:=Zad hi;rw[Zij hs];exact ZwX ih.1 ih.2 h0 (hL s (uA hs))
  ·have:ZaZ L v σ (i+1)=ZaZ L v σ i:=by rw[ZaZ,ZaZ,uD (by omega),uD hi]
   rw[this];exact ih
theorem ZlG {n c:Nat}{U:Int}{σ:LS}{ST:Nat->List Stp}(h:ZdU n U c σ)(hST:∀v:Nat,v<n->Zgs n v (ST v)):
  ∀j,j<=σ.2.2.length->ZdU n (U+16777216*j) j (Zbi ST σ j):=by
 intro j
 induction j with
 |zero=>intro _;obtain⟨g1,g2,g3,g4,g5⟩:=h;exact⟨g1,g2,by simp[Zbi],λ w hw=>by have:=g4 w hw;omega,by simp[Zbi]⟩
 |succ j ih=>
  intro hj;obtain⟨v,hv⟩:=Zad (show j<σ.2.2.length by omega);have hvb:=h.2.2.1 v (uA hv);rw[Ziu hv];refine Zug (ZoL (ih (by omega)) hvb.1 hvb.2 (?_) _).1 (by omega) (uH _);have:=hST v.toNat (by omega)
  rwa [show((v.toNat:Nat):Int)=v by omega]at this
theorem ZoV {n:Nat}{σ:LS}{ST:Nat->List Stp}(hn:n<=2048)(h:ZdU n 0 σ.2.2.length σ)(hq:σ.2.2.length<=n)(hST:∀v:Nat,v<n->Zgs n v (ST v)):
  ∀k,k<=n+1->ZdU n (70437463654400*k) (Zav ST σ k).2.2.length (Zav ST σ k)/\(Zav ST σ k).2.2.length<=n*(k+1):=by
 intro k
 induction k with
 |zero=>intro _;exact⟨by simpa[Zav]using h,by simpa[Zav]using hq⟩
 |succ k ih=>
  intro hk;obtain⟨h1,h2⟩:=ih (by omega);have h3:=ZlG h1 hST (Zav ST σ k).2.2.length (uH _);have hqk:(Zav ST σ k).2.2.length<=4198400:=by
   have:n*(k+1)<=2048*2050:=zF hn (by omega);omega
  obtain⟨g1,g2,g3,g4,g5⟩:=h3;have hc:((Zbi ST (Zav ST σ k) (Zav ST σ k).2.2.length).2.1).count true<=n:=by rw[<-g2];exact List.count_le_length
  refine⟨⟨g1,g2,g3,λ w hw=>?_,by simp only[Zav];omega⟩,?_⟩
  ·have:=g4 w hw;omega
  ·simp only[Zav];have:n*(k+1+1)=n*(k+1)+n:=by rw[Nat.mul_succ]
   omega
def Zdw (n:Nat)(st:List Int)(j:Nat):List Way:=(st.take j).foldl (λ W v=>W.set v.toNat ZcW) (List.replicate n Zdz)
theorem ZqT {n:Nat}{st:List Int}{j:Nat}{v:Int}(h:st[j]? =some v):Zdw n st (j+1)=(Zdw n st j).set v.toNat ZcW:=Zlj _ h
theorem ZhH (n:Nat)(st:List Int):∀j,(Zdw n st j).length=n:=by
 intro j;rw[Zdw];generalize st.take j=l;have:∀(l:List Int) (W:List Way),(l.foldl (λ W v=>W.set v.toNat ZcW) W).length=W.length:=by
  intro l
  induction l with
  |nil=>intro W;rfl
  |cons v l ih=>intro W;rw[jB,ih];simp
 rw[this];simp
theorem ZyU (n:Nat)(st:List Int)(j:Nat):∀w∈Zdw n st j,w=Zdz\/w=ZcW:=by
 rw[Zdw];generalize st.take j=l;have:∀(l:List Int) (W:List Way),(∀w∈W,w=Zdz\/w=ZcW)->∀w∈l.foldl (λ W v=>W.set v.toNat ZcW) W,w=Zdz\/w=ZcW:=by
  intro l
  induction l with
  |nil=>intro W h;exact h
  |cons v l ih=>
   intro W h;rw[jB];refine ih _ λ w hw=>?_
   rcases kD hw with hw|rfl
   ·exact h w hw
   ·exact .inr rfl
 exact this l _ λ w hw=> .inl (zO hw)
def Zar (n:Nat)(st:List Int):LS:=(Zdw n st st.length,List.replicate n false,st)
theorem ZqU {n:Nat}{st:List Int}(hst:∀x∈st,0<=x/\x<(n:Int)):ZdU n 0 (Zar n st).2.2.length (Zar n st):=by
 refine⟨ZhH _ _ _,by simp[Zar],hst,λ w hw=>?_,by omega⟩;rcases ZyU _ _ _ w hw with rfl|rfl<;>simp[Zdz,ZcW]
def Zhg (n:Nat)(ST:Nat->List Stp)(st:List Int):Option Nat:=ZbL (λ k=>(Zav ST (Zar n st) k).2.2.isEmpty) (n+2)
def ZbT (n:Nat)(ST:Nat->List Stp)(st:List Int):Option (List Way):=(Zhg n ST st).map λ k=>(Zav ST (Zar n st) k).1
set_option maxRecDepth 100000
attribute [local irreducible] Zab wpG Zaa Zaf
theorem Zw0 {v:Int}{σ:LS}{s:Stp}(h:¬(wAt σ.1 s.1).1<(wAt σ.1 v).1+s.2.1):Za3 v σ s=σ:=by rw[Za3,if_neg h]
theorem Zw3 {v:Int}{σ:LS}{s:Stp}(h:(wAt σ.1 s.1).1<(wAt σ.1 v).1+s.2.1)(hb:bAt σ.2.1 s.1=true):
  Za3 v σ s=(σ.1.set s.1.toNat ((wAt σ.1 v).1+s.2.1,v,s,false),σ.2.1,σ.2.2):=by rw[Za3,if_pos h,if_pos hb]
theorem ZwZ {v:Int}{σ:LS}{s:Stp}(h:(wAt σ.1 s.1).1<(wAt σ.1 v).1+s.2.1)(hb:bAt σ.2.1 s.1=false):
  Za3 v σ s=(σ.1.set s.1.toNat ((wAt σ.1 v).1+s.2.1,v,s,false),σ.2.1.set s.1.toNat true,σ.2.2++[s.1]):=by
 rw[Za3,if_pos h,if_neg (by rw[hb];exact zZ)]
abbrev ZdA (W:List Way):List D:=W.map Zkm
abbrev ZkQ (B:List Bool):List D:=B.map D.bool
abbrev intsL (l:List Int):List D:=l.map D.int
def Zed (n k:Nat):List Way:=(List.range n).map λ u=>if u<k then Zdz else ZhN
theorem Ziy (n k:Nat):(Zed n k).length=n:=by simp[Zed]
theorem ZjQ {n k u:Nat}(h:u<n):(Zed n k)[u]? =some (if u<k then Zdz else ZhN):=by simp[Zed,h]
theorem ZvK (n:Nat):ZdA (Zed n 0)=List.replicate n (Zkm ZhN):=by
 rw[zJ];refine⟨by simp[Zed],λ b hb=>?_⟩;simp only[Zed,gN,uN,ZdA]at hb;obtain⟨u,_,rfl⟩:=hb;simp
theorem ZvJ {n k:Nat}(h:k<n):(Zed n k).set k Zdz=Zed n (k+1):=by
 refine qL λ u=>?_
 by_cases hu:u<n
 ·rw[ZjQ hu,qD,ZjQ hu,Ziy];by_cases c:k=u
  ·subst c;rw[if_pos rfl,if_pos h,if_pos (by omega)]
  ·rw[if_neg c];by_cases c2:u<k
   ·rw[if_pos c2,if_pos (by omega)]
   ·rw[if_neg c2,if_neg (by omega)]
 ·rw[uP (by rw[yL,Ziy];omega),uP (by rw[Ziy];omega)]
theorem ZvI (n:Nat)(st:List Int):Zed n n=Zdw n st 0:=by
 refine qL λ u=>?_
 by_cases hu:u<n
 ·rw[ZjQ hu,if_pos hu];simp[Zdw,hu]
 ·rw[uP (by rw[Ziy];omega),uP (by rw[ZhH];omega)]
def Zas (l:List Bd)(f:List Int)(v:Nat):List Stp:=Zej l f v l.length
theorem ZyY {n:Nat}{l:List Bd}{f:List Int}
  (hb:∀(k:Nat) b,l[k]? =some b->0<=b.1/\b.1<n/\0<=b.2.1/\b.2.1<n/\b.1≠b.2.1/\-16777216<=b.2.2.1/\b.2.2.1<=16777216)(v:Nat):Zgs n v (Zas l f v):=by
 have key:∀k,Zgs n v (Zej l f v k):=by
  intro k
  induction k with
  |zero=>intro s hs;simp[Zej,Zbm]at hs
  |succ k ih=>
   intro s hs;simp only[Zej,Zbm]at hs;rcases yN.1 hs with hs|hs
   ·exact ih s hs
   ·rw[ZgW]at hs;split at hs
    ·rename_i b hbk;have:=hb k b hbk;rcases yN.1 hs with hs|hs
     ·split at hs
      ·rw[uR.1 hs];dsimp only;omega
      ·simp at hs
     ·split at hs
      ·rw[uR.1 hs];dsimp only;omega
      ·simp at hs
    ·simp at hs
 exact key _
theorem Zvi (ST:Nat->List Stp)(σ:LS):Zbi ST σ 0=(σ.1,σ.2.1,[]):=rfl
theorem Zux (L:List Stp)(v:Int)(σ:LS):ZaZ L v σ 0=(σ.1,σ.2.1.set v.toNat false,σ.2.2):=rfl
theorem ZjJ (n:Nat)(l:List Bd)(f:List Int)(st:List Int)(hn:n<=2048)(hl:l.length<=4096)(hfl:f.length=l.length)
  (hb:∀(k:Nat) b,l[k]? =some b->0<=b.1/\b.1<n/\0<=b.2.1/\b.2.1<n/\b.1≠b.2.1/\-16777216<=b.2.2.1/\b.2.2.1<=16777216)
  (hst:∀x∈st,0<=x/\x<(n:Int))(hsn:st.length<=n):
  (∀W,ZbT n (Zas l f) st=some W->Zaf Tryz.prog 160 [.d (pD n l f), .d (Zac st)] [(2000, .dead)] (.tup [.ref 2000 7 0 n n, .bool true]) [(2000, .row 7 (ZdA W))])/\
  (ZbT n (Zas l f) st=none->Zaf Tryz.prog 160 [.d (pD n l f), .d (Zac st)] [(2000, .dead)] (.tup [.nilS, .bool false]) [(2000, .dead)]):=by
 have hsteps:=ZyZ n l f hn hl hfl hb;have hSL:∀v:Nat,v<n->Zgs n v (Zas l f v):=λ v _=>ZyY hb v
 have hgood:=ZoV hn (ZqU hst) hsn hSL;have main:∀(r:PV) (ob:Ob),(match ZbT n (Zas l f) st with|some W=>r= .tup [.ref 2000 7 0 n n, .bool true]/\ob= .row 7 (ZdA W)|none=>r= .tup [.nilS, .bool false]/\ob= .dead)->
   Zaf Tryz.prog 160 [.d (pD n l f), .d (Zac st)] [(2000, .dead)] r [(2000,ob)]:=by
  intro r ob hro;have hr1:r.only [2000] 4=true:=by
   revert hro;split<;>(rintro⟨rfl,rfl⟩;rfl)
  have hr2:ob.only [2000]=true:=by
   revert hro;split<;>(rintro⟨rfl,rfl⟩;rfl)
  refine ZnO Tryz.func160 rfl (by decide+kernel) (uU rfl) rfl (ZbH rfl) hr1 (by simp[hr2]) rfl ?_;intro B X w0;refine kw1 kO kc0 (kc1 hsteps) ?_;refine Zai (λ(k:Nat)=>k<=n) (λ k=>[(0, .d (pD n l f)),(1, .d (Zac st)),(6, .d (.sl (ZhI n l f))),(7, .ref 27 7 0 n n),(29, .int n),(30, .int k)]) (λ k=>[(27, .row 7 (ZdA (Zed n k)))]) (λ k=>n-k) 0 ?_ ?_ ?_
  ·exact uJ _
  ·exact kN (kc2 @ZvK @ZhN.eq_1) []
  ·intro k hk;have hlen:=Ziy n k;rcases uF k n with hlt|hge
   ·have hg:(Zed n k)[k]? =some ZhN:=by rw[ZjQ hlt,if_neg (by omega)]
    have hstp:=ZvJ hlt;refine kw1 kO (kc3 hg hlen @ZhN.eq_1) kc0 ?_;refine⟨k+1,?_,kN (kc3 @hstp.symm @yR.{0,0} @Zdz.eq_1) [],?_⟩
    ·omega
    ·omega
   ·refine kw1 kP kc0 kc0 ?_;have:k=n:=by omega
    subst this;rw[ZvI k st];refine Zai (λ(j:Nat)=>j<=st.length) (λ j=>[(0, .d (pD k l f)),(1, .d (Zac st)),(6, .d (.sl (ZhI k l f))),(7, .ref 27 7 0 k k),(38, .d (Zac st)),(39, .int st.length),(40, .int j)]) (λ j=>[(27, .row 7 (ZdA (Zdw k st j)))]) (λ j=>st.length-j) 0 ?_ ?_ ?_
    ·exact uJ _
    ·exact kN kc0 []
    ·intro j hj;have hlen:=ZhH k st j;rcases uF j st.length with hlt|hge2
     ·obtain⟨x,hx⟩:=Zad hlt;have hxi:=hst x (uA hx);have hsu:=ZqT (n:=k) hx;obtain⟨v,rfl⟩:∃v:Nat,x=v:=⟨x.toNat,by omega⟩;have hg:(Zdw k st j)[v]? =some (wAt (Zdw k st j) v):=Zdy (v:=(v:Int)) hlen (by omega) (by omega);rw[uQ]at hsu;refine kw1 kO (kc3 hx hg hlen) kc0 ?_;refine⟨j+1,?_,kN (kc3 hsu @yR.{0,0} @ZcW.eq_1) [],?_⟩
      ·omega
      ·omega
     ·refine kw1 kP kc0 kc0 ?_;have:j=st.length:=by omega
      subst this;refine Zai (λ(q:Nat)=>match q with|k'=>k'<=k+1/\ZbL (λ i=>(Zav (Zas l f) (Zar k st) i).2.2.isEmpty) k'=none) (λ k'=>[(0, .d (pD k l f)),(6, .d (.sl (ZhI k l f))),(7, .ref 27 7 0 k k),(11, .d (Zac (Zav (Zas l f) (Zar k st) k').2.2)),(12, .ref 55 1 0 k k),(13, .int k')]) (λ k'=>[(27, .row 7 (ZdA (Zav (Zas l f) (Zar k st) k').1)),(55, .row 1 (ZkQ (Zav (Zas l f) (Zar k st) k').2.1))]) (λ k'=>k+1-k') 0 ?_ ?_ ?_
      ·exact⟨uJ _,rfl⟩
      ·exact kN (kc3 @Zav.eq_1 @Zar.eq_1 @zI.{0,0}) []
      ·rintro m ⟨hm,hfirst⟩;obtain⟨hG,hqn⟩:=hgood m hm;have hit:Zav (Zas l f) (Zar k st) (m+1)=Zbi (Zas l f) (Zav (Zas l f) (Zar k st) m) (Zav (Zas l f) (Zar k st) m).2.2.length:=rfl;have hend:(Zav (Zas l f) (Zar k st) m).2.2.isEmpty=true->ZbT k (Zas l f) st=some (Zav (Zas l f) (Zar k st) m).1:=λ h=>by
        rw[ZbT,Zhg,Zor (by omega) hfirst h];rfl
       have hnx:(Zav (Zas l f) (Zar k st) m).2.2.isEmpty=false->ZbL (λ i=>(Zav (Zas l f) (Zar k st) i).2.2.isEmpty) (m+1)=none:=λ h=>Zos hfirst h
       try dsimp only
       generalize Zav (Zas l f) (Zar k st) m=σ at hG hqn hit hend hnx|-;have hq40:k*(m+1)<=2048*2050:=zF hn (by omega);rcases hem:σ.2.2.isEmpty with _|_
       ·have hpos:0<σ.2.2.length:=by
         rcases qT σ.2.2.length with h|h
         ·rw[jX.1 h]at hem;cases hem
         ·exact h
        rcases uF k m with hbig|hsmall
        ·have e:ZbT k (Zas l f) st=none:=by
          have:m+1=k+2:=by omega
          have h2:=hnx hem;rw[this]at h2;rw[ZbT,Zhg,h2];rfl
         rw[e]at hro;obtain⟨rfl,rfl⟩:=hro;refine kw1 kP kc0 kc0 ?_;refine kR kc0 [(2000,900)] [(4, .nilS),(5, .bool false)] [(2000, .dead)] ?_;refine Za1 ?_;exact⟨⟨_,rfl,rfl,rfl,trivial⟩,uK.2 ⟨rfl,yA _⟩⟩
        ·refine kw1 kP kc0 kc0 ?_;refine Zau _ (Zd5 14 900 1 rfl rfl) ?_;refine Zai (λ(j:Nat)=>j<=σ.2.2.length) (λ j=>[(0, .d (pD k l f)),(6, .d (.sl (ZhI k l f))),(7, .ref 27 7 0 k k),(12, .ref 55 1 0 k k),(13, .int ((m:Int)+1)),(14, .ref 900 1 0 (Zbi (Zas l f) σ j).2.2.length (Zbi (Zas l f) σ j).2.2.length),(68, .d (Zac σ.2.2)),(69, .int σ.2.2.length),(70, .int j)]) (λ j=>[(27, .row 7 (ZdA (Zbi (Zas l f) σ j).1)),(55, .row 1 (ZkQ (Zbi (Zas l f) σ j).2.1)),(900, .row 1 (intsL (Zbi (Zas l f) σ j).2.2))]) (λ j=>σ.2.2.length-j) 0 ?_ ?_ ?_
         ·exact uJ _
         ·exact kN (kc1 @Zvi) []
         ·intro j hj;rcases uF j σ.2.2.length with hjl|hjg
          ·obtain⟨x,hx⟩:=Zad hjl;have hxi:=hG.2.2.1 x (uA hx);obtain⟨v,rfl⟩:∃v:Nat,x=v:=⟨x.toNat,by omega⟩;have hmg:=ZlG hG hSL j (by omega);have hin:=ZoL hmg (v:=(v:Int)) (L:=Zas l f v) (by omega) (by omega) (hSL v (by omega));have hms:=Ziu (ST:=Zas l f) hx;rw[uQ]at hms;have hcnt:∀τ:LS,ZdU k (70437463654400*m+16777216*j+16777216) (j+1) τ->τ.2.2.length<=4300000:=λ τ h=>by
            have h1:=h.2.2.2.2;have h2:τ.2.1.count true<=k:=by rw[<-h.2.1];exact List.count_le_length
            omega
           try dsimp only
           generalize Zbi (Zas l f) σ j=μ at hmg hin hms|-;have hs:=Zke l f v l.length;have hsl:(ZcT l f l.length v)=(Zas l f v).map stD:=rfl;have hsr:(List.map (λ v=>D.sl (ZcT l f l.length v)) (List.range k))[v]? =some (.sl ((Zas l f v).map stD)):=by simp[show v<k by omega];rfl
           rw[hsl,uE]at hs;have gb:μ.2.1[v]? =some (bAt μ.2.1 v):=ZkG (v:=(v:Int)) hmg.2.1 (by omega) (by omega);have l1:=hmg.1;have l2:=hmg.2.1;refine kw1 kO (kc6 hx gb l1 l2 hsr @kS) kc0 ?_;refine Zai (λ(i:Nat)=>i<=(Zas l f v).length) (λ i=>[(0, .d (pD k l f)),(6, .d (.sl (ZhI k l f))),(7, .ref 27 7 0 k k),(12, .ref 55 1 0 k k),(13, .int ((m:Int)+1)),(14, .ref 900 1 0 (ZaZ (Zas l f v) v μ i).2.2.length (ZaZ (Zas l f v) v μ i).2.2.length),(16, .int v),(68, .d (Zac σ.2.2)),(69, .int σ.2.2.length),(70, .int j),(80, .d (.sl ((Zas l f v).map stD))),(81, .int (Zas l f v).length),(82, .int i)]) (λ i=>[(27, .row 7 (ZdA (ZaZ (Zas l f v) v μ i).1)),(55, .row 1 (ZkQ (ZaZ (Zas l f v) v μ i).2.1)),(900, .row 1 (intsL (ZaZ (Zas l f v) v μ i).2.2))]) (λ i=>(Zas l f v).length-i) 0 ?_ ?_ ?_
           ·exact uJ _
           ·exact kN (kc3 @Zux @yR.{0,0} @uQ) []
           ·intro i hi;rcases uF i (Zas l f v).length with hil|hig
            ·obtain⟨s,hs2⟩:=Zad hil;obtain⟨hgi,hvi⟩:=hin i;have hsi:=hSL v (by omega) s (uA hs2);have hns:=Zij (v:=(v:Int)) (σ:=μ) hs2;have hlq:=hcnt _ hgi
             try dsimp only
             generalize ZaZ (Zas l f v) v μ i=τ at hgi hvi hns hlq|-;obtain⟨W,Bs,q⟩:=τ;obtain⟨to,len,bd,bk⟩:=s;obtain⟨u,rfl⟩:∃u:Nat,to=u:=⟨to.toNat,by have:=hsi.1;dsimp only at this;omega⟩;dsimp only at hsi hvi hlq hns;have g1:W.length=k:=hgi.1;have g2:Bs.length=k:=hgi.2.1;have gv:W[v]? =some (wAt W v):=Zdy (v:=(v:Int)) g1 (by omega) (by omega);have gu:W[u]? =some (wAt W u):=Zdy (v:=(u:Int)) g1 (by omega) (by omega);have gbu:Bs[u]? =some (bAt Bs u):=ZkG (v:=(u:Int)) g2 (by omega) (by omega);have bv:=hgi.2.2.2.1 _ (uA gv);have bu:=hgi.2.2.2.1 _ (uA gu);have htk:(List.map D.int q).take q.length=List.map D.int q:=Zat _ _;rcases gU ((wAt W u).1<(wAt W v).1+len)with hlt|hlt
             ·rcases hbu:bAt Bs u with _|_
              ·rw[ZwZ hlt hbu]at hns;rw[hbu]at gbu;dsimp only at hns;rw[uQ]at hns;refine kw1 kO (kc8 hs2 gv gu gbu g1 g2 htk @yL.{0}) kc0 ?_;refine⟨i+1,?_,kN (kc4 hns @yR.{0,0} @yB.{0,0} @uC.{0}) [(900,124)],?_⟩
               ·omega
               ·omega
              ·rw[Zw3 hlt hbu]at hns;rw[hbu]at gbu;dsimp only at hns;rw[uQ]at hns;refine kw1 kO (kc8 hs2 gv gu gbu g1 g2 htk @yL.{0}) kc0 ?_;refine⟨i+1,?_,kN (kc2 hns @yR.{0,0}) [],?_⟩
               ·omega
               ·omega
             ·rw[Zw0 hlt]at hns;refine kw1 kO (kc8 hs2 gv gu gbu g1 g2 htk @yL.{0}) kc0 ?_;refine⟨i+1,?_,kN (kc2 hns @yR.{0,0}) [],?_⟩
              ·omega
              ·omega
            ·have:i=(Zas l f v).length:=by omega
             subst this;refine kw1 kO kc0 kc0 ?_;refine⟨j+1,?_,kN (kc1 hms) [],?_⟩
             ·omega
             ·omega
          ·have:j=σ.2.2.length:=by omega
           subst this;have hmg:=ZlG hG hSL σ.2.2.length (uH _);rw[<-hit]at hmg;have hnx:=hnx hem
           try dsimp only
           rw[<-hit];generalize hnext:Zav (Zas l f) (Zar k st) (m+1)=τ at hmg|-;refine Zau _ (Zc2 900 1 _ rfl (ZcP _ rfl) (by decide)) ?_;refine kw1 kO (kc2 @qS.{0} @Zat) kc0 ?_;refine⟨m+1,?_,kN (kc5 @hnext @qS.{0} @Zat @qI @gP) [],?_⟩
           ·exact⟨by omega,hnx⟩
           ·omega
       ·have e:=hend hem;have h0:σ.2.2.length=0:=by
         rw[Aj]at hem;rw[hem];rfl
        rw[e]at hro;obtain⟨rfl,rfl⟩:=hro;refine kw1 kP (kc1 h0) kc0 ?_;refine kR kc0 [(2000,27)] [(4, .ref 2000 7 0 _ _),(5, .bool true)] [(2000, .row 7 _)] ?_;refine Za1 ?_;exact⟨⟨_,rfl,rfl,rfl,trivial⟩,uK.2 ⟨rfl,yA _⟩⟩
 refine⟨λ W hW=>main _ _ (by rw[hW];exact⟨rfl,rfl⟩),λ hN=>main _ _ (by rw[hN];exact⟨rfl,rfl⟩)⟩
def Zao (W:List Way)(v:Int):Nat->Int
 |0=>v
 |k+1=>(wAt W (Zao W v k)).2.1
def ZaI (W:List Way)(v:Int)(k:Nat):Stp:=(wAt W (Zao W v k)).2.2.1
def ZcE (W:List Way)(f:List Int)(m0 v:Int):Nat->Int
 |0=>m0
 |k+1=>if(ZaI W v k).2.2.2 then min (ZcE W f m0 v k) (at0 f (ZaI W v k).2.2.1)else ZcE W f m0 v k
def Zbw (W:List Way)(f:List Int)(m v:Int):Nat->List Int
 |0=>f
 |k+1=>(Zbw W f m v k).set (ZaI W v k).2.2.1.toNat (at0 (Zbw W f m v k) (ZaI W v k).2.2.1+(if(ZaI W v k).2.2.2 then -m else m))
theorem Zeo (W:List Way)(v:Int)(k:Nat):Zao W v (k+1)=(wAt W (Zao W v k)).2.1:=rfl
theorem ZlI (W:List Way)(f:List Int)(m0 v:Int)(k:Nat):ZcE W f m0 v (k+1)=if(ZaI W v k).2.2.2 then min (ZcE W f m0 v k) (at0 f (ZaI W v k).2.2.1)else ZcE W f m0 v k:=rfl
theorem Zmm (W:List Way)(f:List Int)(m v:Int)(k:Nat):Zbw W f m v (k+1)=(Zbw W f m v k).set (ZaI W v k).2.2.1.toNat (at0 (Zbw W f m v k) (ZaI W v k).2.2.1+(if(ZaI W v k).2.2.2 then -m else m)):=rfl
def Zei (W:List Way)(f nd:List Int)(t:Int)(K:Nat):Int:=min (ZcE W f (at0 nd t) t K) (-(at0 nd (Zao W t K)))
theorem Zml (W:List Way)(f nd:List Int)(t:Int)(K:Nat):Zei W f nd t K=min (ZcE W f (at0 nd t) t K) (-(at0 nd (Zao W t K))):=rfl
theorem ZgU (W:List Way)(f:List Int)(m v:Int):∀k,(Zbw W f m v k).length=f.length
 |0=>rfl
 |k+1=>by simp[Zbw,ZgU W f m v k]
theorem ZqD {W:List Way}{f:List Int}{m v F M:Int}(hf:ZbU f F)(hM:0<=M)(hm:-M<=m/\m<=M):∀k:Nat,ZbU (Zbw W f m v k) (F+M*k)
 |0=>by simpa[Zbw]using hf
 |k+1=>by
  have ih:=ZqD (W:=W) (v:=v) hf hM hm k;have h1:=ih (ZaI W v k).2.2.1;have e:F+M*((k+1:Nat):Int)=F+M*k+M:=by rw[qI,gP,zW,Int.mul_one,zA]
  rw[e,Zbw];refine ZmR (Ze6 ih (by omega)) ?_ ?_<;>split<;>omega
theorem ZlH {W:List Way}{f:List Int}{m0 v F:Int}(hf:ZbU f F)(hm:-F<=m0/\m0<=F):∀k:Nat,-F<=ZcE W f m0 v k/\ZcE W f m0 v k<=F
 |0=>by simpa[ZcE]using hm
 |k+1=>by
  have ih:=ZlH (W:=W) (v:=v) hf hm k;have h1:=hf (ZaI W v k).2.2.1;rw[ZcE];split<;>omega
def Zkz (n m:Nat)(W:List Way):Prop:=W.length=n/\∀w∈W,0<=w.2.1/\w.2.1<(n:Int)/\0<=w.2.2.1.2.2.1/\w.2.2.1.2.2.1<(m:Int)
theorem ZkH {n m:Nat}{W:List Way}{v:Int}(hW:Zkz n m W)(h0:0<=v)(hv:v<n):∀k,0<=Zao W v k/\Zao W v k<n
 |0=>⟨h0,hv⟩
 |k+1=>by
  obtain⟨h1,h2⟩:=ZkH hW h0 hv k;have:=hW.2 _ (uA (Zdy hW.1 h1 h2));exact⟨this.1,this.2.1⟩
abbrev pM (n:Nat)(l:List Bd)(m:Nat):Ob:= .cells [.int n, .d (ZdZ l), .ref 1001 1 0 m m]
theorem ZxW (n:Nat)(l:List Bd)(f:List Int)(W:List Way)(t:Int)(nd:List Int)(K:Nat)(hn:n<=2048)(hW:Zkz n f.length W)(hndl:nd.length=n)
  (ht:0<=t/\t<n)(hK:K<=n)(h1:∀j,j<K->(wAt W (Zao W t j)).2.2.2=false)(h2:(wAt W (Zao W t K)).2.2.2=true)(hf:ZbU f 1125899906842624)(hnd:ZbU nd 1125899906842624):
  Zaf Tryz.prog 213 [.ptr 1000 0 0 0, .d (.sl (ZdA W)), .int t, .ref 1002 1 0 n n] [(1000,pM n l f.length),(1001, .row 1 (intsL f)),(1002, .row 1 (intsL nd))]
   (.tup [.int (Zao W t K), .int (Zei W f nd t K)]) [(1000,pM n l f.length),(1001, .row 1 (intsL (Zbw W f (Zei W f nd t K) t K))),(1002, .row 1 (intsL nd))]:=by
 have hbk:=ZkH hW ht.1 ht.2;have hms:=ZlH (W:=W) (v:=t) (m0:=at0 nd t) hf (hnd t);have hst:∀k,∃b:Nat,(ZaI W t k).2.2.1=b/\b<f.length:=by
  intro k;have:=hW.2 _ (uA (Zdy hW.1 (hbk k).1 (hbk k).2));exact⟨(ZaI W t k).2.2.1.toNat,by rw[ZaI];omega,by rw[ZaI];omega⟩
 refine kM Tryz.func213 ?_;intro B X w0;obtain⟨t',rfl⟩:∃t':Nat,t=t':=⟨t.toNat,by omega⟩;have gnt:=ZaS (r:=nd) (i:=t') (by omega);have hWl:=hW.1;refine kw1 kO (kc2 gnt hndl) kc0 ?_;refine Zai (λ(k:Nat)=>k<=K) (λ k=>[(0, .ptr 1000 0 0 0),(1, .d (.sl (ZdA W))),(2, .int t'),(3, .ref 1002 1 0 n n),(10, .int (Zao W t' k)),(11, .int (ZcE W f (at0 nd t') t' k)),(12, .int (Zao W t' k))]) (λ k=>[(1000,pM n l f.length),(1001, .row 1 (intsL f)),(1002, .row 1 (intsL nd))]) (λ k=>K-k) 0 ?_ ?_ ?_
 ·exact uJ _
 ·exact kN (kc2 @Zao.eq_1 @ZcE.eq_1) []
 ·intro k hk;obtain⟨b,hb1,hb2⟩:=hst k;have gb:=ZaS hb2;have hbb:=hf b;have hmk:=hms k;have hmn:=ZlI W f (at0 nd t') t' k;have hbn:=Zeo W t' k;obtain⟨hv1,hv2⟩:=hbk k;have hgb:(wAt W (Zao W t' k)).2.2.2=decide (k=K):=by
   rcases gU (k=K)with h|h
   ·rw[h,h2];simp
   ·rw[h1 k (by omega),yC h]
  rw[hb1]at hmn;rw[ZaI]at hb1 hmn;obtain⟨v,hv⟩:∃v:Nat,Zao W t' k=v:=⟨(Zao W t' k).toNat,by omega⟩;rw[hv]at hv1 hv2 hbn hgb hmn hb1;have gv:W[v]? =some (wAt W v):=Zdy (v:=(v:Int)) hWl hv1 hv2;rcases uF k K with hlt|hge
  ·rw[yC (show k≠K by omega)]at hgb;generalize hw:wAt W v=w at gv hbn hgb hmn hb1;obtain⟨lg,fr,⟨s1,s2,s3,s4⟩,bg⟩:=w;dsimp only at hbn hgb hmn hb1;subst hgb;cases s4 with
   |false=>
    rw[if_neg (by decide)]at hmn;refine kw1 kO (kc4 gv hv hWl hb1) kc0 ?_;refine⟨k+1,?_,kN (kc2 hbn hmn) [],?_⟩
    ·omega
    ·omega
   |true=>
    rw[if_pos rfl]at hmn;refine kw1 kO (kc6 gv hv hWl hb1 gb @Zim) kc0 ?_;refine⟨k+1,?_,kN (kc2 hbn hmn) [],?_⟩
    ·omega
    ·omega
  ·have:k=K:=by omega
   subst this;rw[yM rfl]at hgb;have gnv:=ZaS (r:=nd) (i:=v) (by omega);have hnv:=hnd v;have hsm:=Zml W f nd t' k;rw[hv]at hsm;have hsent:=ZqD (W:=W) (v:=(t':Int)) (m:=Zei W f nd t' k) (M:=1125899906842624) hf (by omega) (by omega);have hfr:Zao W t' k=v:=hv;refine kw1 kP (kc7 gv hv hWl hgb gnv hndl @Zim) kc0 ?_;rw[<-hsm];generalize Zei W f nd t' k=m at hsm hsent|-;refine Zai (λ(j:Nat)=>j<=k) (λ j=>[(0, .ptr 1000 0 0 0),(1, .d (.sl (ZdA W))),(10, .int v),(11, .int m),(14, .int (Zao W t' j))]) (λ j=>[(1000,pM n l f.length),(1001, .row 1 (intsL (Zbw W f m t' j))),(1002, .row 1 (intsL nd))]) (λ j=>k-j) 0 ?_ ?_ ?_
   ·exact uJ _
   ·exact kN (kc2 @Zao.eq_1 @Zbw.eq_1) []
   ·intro j hj;obtain⟨b,hb1,hb2⟩:=hst j;have hsl:=ZgU W f m t' j;have gb:=ZaS (r:=Zbw W f m t' j) (i:=b) (by omega);have hbb:=hsent j b;have hmn:=Zmm W f m t' j;have hbn:=Zeo W t' j;obtain⟨hv1,hv2⟩:=hbk j;have hgj:(wAt W (Zao W t' j)).2.2.2=decide (j=k):=by
     rcases gU (j=k)with h|h
     ·rw[h,h2];simp
     ·rw[h1 j (by omega),yC h]
    rw[hb1,uQ]at hmn;rw[ZaI]at hb1 hmn;obtain⟨u,hu⟩:∃u:Nat,Zao W t' j=u:=⟨(Zao W t' j).toNat,by omega⟩;rw[hu]at hv1 hv2 hbn hgj hmn hb1;have gu:W[u]? =some (wAt W u):=Zdy (v:=(u:Int)) hWl hv1 hv2;rcases uF j k with hlt|hge2
    ·rw[yC (show j≠k by omega)]at hgj;generalize hw:wAt W u=w at gu hbn hgj hmn hb1;obtain⟨lg,fr,⟨s1,s2,s3,s4⟩,bg⟩:=w;dsimp only at hbn hgj hmn hb1;subst hgj;cases s4 with
     |false=>
      rw[if_neg (by decide)]at hmn;refine kw1 kO (kc6 gu hu hWl hb1 gb hsl) kc0 ?_;refine⟨j+1,?_,kN (kc3 hbn hmn @yR.{0,0}) [],?_⟩
      ·omega
      ·omega
     |true=>
      rw[if_pos rfl]at hmn;refine kw1 kO (kc6 gu hu hWl hb1 gb hsl) kc0 ?_;refine⟨j+1,?_,kN (kc4 hbn hmn @yR.{0,0} @Int.sub_eq_add_neg) [],?_⟩
      ·omega
      ·omega
    ·have:j=k:=by omega
     subst this;rw[yM rfl]at hgj;refine kw1 kP (kc4 gu hu hWl hgj) kc0 ?_;refine Za1 ?_;exact⟨⟨_,rfl,rfl,rfl,trivial⟩,uK.2 ⟨rfl,uK.2 ⟨rfl,uK.2 ⟨rfl,yA _⟩⟩⟩⟩
def ZfU (nd:List Int)(v:Nat):List Int:=if at0 nd v<0 then[(v:Int)]else[]
def ZbG (nd:List Int)(k:Nat):List Int:=Zbm (ZfU nd) k
def ZaK (W:List Way)(nd:List Int):Nat->Int
 |0=>-1
 |k+1=>if 0<at0 nd k/\-576460752303423488<(wAt W k).1/\(ZaK W nd k<0\/(wAt W (ZaK W nd k)).1<(wAt W k).1)then k else ZaK W nd k
def Zmu (W:List Way)(t:Int)(m:Nat):Option Nat:=ZbL (λ k=>(wAt W (Zao W t k)).2.2.2) m
def ZgZ (n m:Nat)(W:List Way):Bool:=decide (W.length=n)&&W.all λ w=>decide (0<=w.2.1/\w.2.1<(n:Int)/\0<=w.2.2.1.2.2.1/\w.2.2.1.2.2.1<(m:Int))
def inB (f:List Int):Bool:=f.all λ x=>decide (-1125899906842624<=x/\x<=1125899906842624)
def Zjo (n:Nat)(l:List Bd)(f nd:List Int):Option (List Int×List Int):=
 match ZbT n (Zas l f) (ZbG nd n)with
 |none=>none
 |some W=>match Zmu W (ZaK W nd n) (n+1)with
  |none=>none
  |some K=>if(decide (0<=ZaK W nd n)&&ZgZ n l.length W&&inB f&&inB nd)=true then
   some (Zbw W f (Zei W f nd (ZaK W nd n) K) (ZaK W nd n) K,
    (nd.set (Zao W (ZaK W nd n) K).toNat (at0 nd (Zao W (ZaK W nd n) K)+Zei W f nd (ZaK W nd n) K)).set (ZaK W nd n).toNat
     (at0 (nd.set (Zao W (ZaK W nd n) K).toNat (at0 nd (Zao W (ZaK W nd n) K)+Zei W f nd (ZaK W nd n) K)) (ZaK W nd n)-Zei W f nd (ZaK W nd n) K))else none
def Zfb (n:Nat)(l:List Bd):Nat->List Int->List Int->Option (List Int)
 |0,_,_=>none
 |r+1,f,nd=>if(ZbG nd n).isEmpty then some f else match Zjo n l f nd with
  |none=>none
  |some s=>Zfb n l r s.1 s.2
theorem Zjz {f:List Int}(h:inB f=true):ZbU f 1125899906842624:=by
 intro v;rw[at0];cases hx:f[v.toNat]? with
 |none=>simp
 |some x=>
  simp only[inB,uW,uG]at h;exact h x (uA hx)
theorem ZzT {n m:Nat}{W:List Way}(h:ZgZ n m W=true):Zkz n m W:=by
 simp only[ZgZ,uO,uG,uW]at h;exact h
theorem Zle {p:Nat->Bool}:∀{m k:Nat},ZbL p m=some k->k<m/\p k=true/\∀j,j<k->p j=false:=by
 intro m
 induction m with
 |zero=>intro k h;simp[ZbL]at h
 |succ m ih=>
  intro k h;rw[ZbL]at h;cases hm:ZbL p m with
  |some j=>
   rw[hm]at h;simp only[uZ]at h;subst h;obtain⟨h1,h2,h3⟩:=ih hm;exact⟨by omega,h2,h3⟩
  |none=>
   rw[hm]at h;have hno:∀j,j<m->p j=false:=by
    intro j hj;cases hp:p j with
    |false=>rfl
    |true=>
     exfalso;have key:∀m,j<m->ZbL p m≠none:=by
      intro m
      induction m with
      |zero=>intro h;omega
      |succ m ih2=>
       intro hjm hn;rw[ZbL]at hn;cases hq:ZbL p m with
       |some i=>rw[hq]at hn;simp at hn
       |none=>
        rw[hq]at hn;rcases uF j m with h|h
        ·exact ih2 h hq
        ·have:j=m:=by omega
         subst this;simp[hp]at hn
     exact key m hj hm
   by_cases hp:p m=true
   ·simp[hp]at h;subst h;exact⟨by omega,hp,hno⟩
   ·simp[hp]at h
theorem Zix (nd:List Int):∀k,(∀x∈ZbG nd k,0<=x/\x<(k:Int))/\(ZbG nd k).length<=k
 |0=>by simp[ZbG,Zbm]
 |k+1=>by
  obtain⟨h1,h2⟩:=Zix nd k;simp only[ZbG,Zbm]at h1 h2|-;refine⟨λ x hx=>?_,?_⟩
  ·rcases yN.1 hx with hx|hx
   ·have:=h1 x hx;omega
   ·rw[ZfU]at hx;split at hx
    ·rw[uR.1 hx];omega
    ·simp at hx
  ·rw[uC,ZfU];split<;>simp<;>omega
theorem ZjT (W:List Way)(nd:List Int):∀k,ZaK W nd k<(k:Int)/\-1<=ZaK W nd k
 |0=>by simp[ZaK]
 |k+1=>by
  have:=ZjT W nd k;rw[ZaK];split<;>omega
theorem Zs1 (n:Nat)(l:List Bd)(f0 f1:List Int)(R:Nat)(hg:nOk (n,l)=true)(hfl:f0.length=l.length)(hc:Zfb n l R f0 (Zbv l n l.length)=some f1):
  Zaf Tryz.prog 162 [.ptr 1000 0 0 0] [(1000,pM n l l.length),(1001, .row 1 (intsL f0))] (.tup []) [(1000,pM n l l.length),(1001, .row 1 (intsL f1))]:=by
 obtain⟨h1,h2,h3,h4⟩:=ZgN hg;dsimp only at h1 h2 h3 h4;have hneed:=Zvu n l f0 hg;have hnl:=Zhu l n l.length;generalize Zbv l n l.length=nd0 at hc hneed hnl;refine kM Tryz.func162 ?_;intro B X w0;have htk0:(f0.map D.int).take l.length=f0.map D.int:=by rw[<-hfl];exact Zat _ _
 refine kw1 kO (kc3 hfl htk0 @qS.{0}) (kc1 (kfc [(2000,14)] hneed)) ?_;refine Zai (λ(q:Nat×List Int×List Int)=>match q with|⟨r,f,nd⟩=>Zfb n l r f nd=some f1/\f.length=l.length/\nd.length=n) (λ⟨r,f,nd⟩=>[(0, .ptr 1000 0 0 0),(2, .ref 14 1 0 n n)]) (λ⟨r,f,nd⟩=>[(1000,pM n l l.length),(1001, .row 1 (intsL f)),(14, .row 1 (intsL nd))]) (λ⟨r,f,nd⟩=>r) (R,f0,nd0) ?_ ?_ ?_
 ·exact⟨hc,hfl,hnl⟩
 ·exact kN kc0 []
 ·rintro⟨r,f,nd⟩ ⟨hcf,hfl,hnl⟩
  try dsimp only
  cases r with
  |zero=>rw[Zfb]at hcf;cases hcf
  |succ r=>
   rw[Zfb]at hcf;refine kw1 kO kc0 kc0 ?_;refine Zau _ (Zd5 3 900 1 rfl rfl) ?_;refine Zai (λ(i:Nat)=>i<=n) (λ i=>[(0, .ptr 1000 0 0 0),(2, .ref 14 1 0 n n),(3, .ref 900 1 0 (ZbG nd i).length (ZbG nd i).length),(15, .ref 14 1 0 n n),(16, .int n),(17, .int i)]) (λ i=>[(1000,pM n l l.length),(1001, .row 1 (intsL f)),(14, .row 1 (intsL nd)),(900, .row 1 (intsL (ZbG nd i)))]) (λ i=>n-i) 0 ?_ ?_ ?_
   ·exact uJ _
   ·exact kN kc0 []
   ·intro i hi;rcases uF i n with hin|hin
    ·have gi:=ZaS (r:=nd) (i:=i) (by omega);have hns:ZbG nd (i+1)=ZbG nd i++ZfU nd i:=rfl;have hnl2:=(Zix nd i).2;rcases gU (at0 nd i<0)with hneg|hneg
     ·rw[ZfU,if_pos hneg]at hns;refine kw1 kO (kc3 gi hnl @Zat) kc0 ?_;refine⟨i+1,?_,kN (kc3 hns @yB.{0,0} @uC.{0}) [(900,27)],?_⟩
      ·omega
      ·omega
     ·rw[ZfU,if_neg hneg,yO]at hns;refine kw1 kO (kc3 gi hnl @Zat) kc0 ?_;refine⟨i+1,?_,kN (kc1 hns) [],?_⟩
      ·omega
      ·omega
    ·have:i=n:=by omega
     subst this;obtain⟨hs1,hs2⟩:=Zix nd i;refine Zau _ (Zc2 900 1 _ rfl (ZcP _ rfl) (by decide)) ?_;rcases hem:(ZbG nd i).isEmpty with _|_
     ·rw[hem]at hcf;rw[if_neg (by decide),Zjo]at hcf;have hpos:0<(ZbG nd i).length:=by
       rcases qT (ZbG nd i).length with h|h
       ·rw[jX.1 h]at hem;cases hem
       ·exact h
      have hlong:=(ZjJ i l f (ZbG nd i) (by omega) (by omega) hfl (λ k b hb=>by have:=h4 k b hb;omega) hs1 hs2).1;cases hW:ZbT i (Zas l f) (ZbG nd i)with
      |none=>rw[hW]at hcf;cases hcf
      |some W=>
       rw[hW]at hcf;have hlong:=hlong W hW;dsimp only at hcf;cases hK:Zmu W (ZaK W nd i) (i+1)with
       |none=>rw[hK]at hcf;cases hcf
       |some K=>
        rw[hK]at hcf;dsimp only at hcf;by_cases hcond:(decide (0<=ZaK W nd i)&&ZgZ i l.length W&&inB f&&inB nd)=true
        ·rw[if_pos hcond]at hcf;dsimp only at hcf;simp only[uO,uG]at hcond;obtain⟨⟨⟨c1,c2⟩,c3⟩,c4⟩:=hcond;obtain⟨k1,k2,k3⟩:=Zle hK;have hWI:=ZzT c2;have hpk:=ZjT W nd i;have hsend:=ZxW i l f W (ZaK W nd i) nd K (by omega) (hfl▸hWI) hnl ⟨c1,hpk.1⟩ (by omega) k3 k2 (Zjz c3) (Zjz c4);rw[hfl]at hsend;have hnw:=Zjz c4;have hmm:=ZlH (W:=W) (v:=ZaK W nd i) (m0:=at0 nd (ZaK W nd i)) (Zjz c3) (hnw _) K;have hsl:=ZgU W f (Zei W f nd (ZaK W nd i) K) (ZaK W nd i) K;have hbk:=ZkH hWI c1 hpk.1 K;have hWl:=hWI.1;have htkf:(f.map D.int).take l.length=f.map D.int:=by rw[<-hfl];exact Zat _ _
         refine kw1 kO (kc5 hfl hnl htkf @Zat @qS.{0}) (kc1 (kfc [(2000,35)] hlong)) ?_;refine Zai (λ(u:Nat)=>u<=i) (λ u=>[(0, .ptr 1000 0 0 0),(2, .ref 14 1 0 i i),(6, .ref 35 7 0 i i),(8, .int (ZaK W nd u)),(38, .ref 14 1 0 i i),(39, .int i),(40, .int u)]) (λ u=>[(1000,pM i l l.length),(1001, .row 1 (intsL f)),(14, .row 1 (intsL nd)),(35, .row 7 (ZdA W))]) (λ u=>i-u) 0 ?_ ?_ ?_
         ·exact uJ _
         ·exact kN kc0 []
         ·intro u hu;rcases uF u i with hui|hui
          ·have gn:=ZaS (r:=nd) (i:=u) (by omega);have gw:W[u]? =some (wAt W u):=Zdy (v:=(u:Int)) hWl (by omega) (by omega);obtain⟨q1,q2⟩:=ZjT W nd u;have hps:ZaK W nd (u+1)=if 0<at0 nd u/\-576460752303423488<(wAt W u).1/\(ZaK W nd u<0\/(wAt W (ZaK W nd u)).1<(wAt W u).1)then(u:Int)else ZaK W nd u:=rfl
           generalize ZaK W nd u=p at q1 q2 hps|-;rcases Az p 0 with hp|hp
           ·rcases gU (0<at0 nd u/\-576460752303423488<(wAt W u).1)with hq|hq
            ·rw[if_pos ⟨hq.1,hq.2, .inl hp⟩]at hps;refine kw1 kO (kc4 gn gw hWl hnl) kc0 ?_
             all_goals
              refine⟨u+1,?_,kN (kc1 hps) [],?_⟩
              ·omega
              ·omega
            ·rw[if_neg (by omega)]at hps;refine kw kO (kc4 gn gw hWl hnl) kc0 ?_
             repeat' first|exact True.intro|refine Bn.mk ?_ ?_|intro hc
             all_goals
              refine⟨u+1,?_,kN (kc1 hps) [],?_⟩
              ·omega
              ·omega
           ·obtain⟨p',rfl⟩:∃p':Nat,p=p':=⟨p.toNat,by omega⟩;have gp:W[p']? =some (wAt W p'):=Zdy (v:=(p':Int)) hWl (by omega) (by omega);rcases gU (0<at0 nd u/\-576460752303423488<(wAt W u).1/\(wAt W p').1<(wAt W u).1)with hq|hq
            ·rw[if_pos ⟨hq.1,hq.2.1, .inr hq.2.2⟩]at hps;refine kw1 kO (kc5 gn gw gp hWl hnl) kc0 ?_
             all_goals
              refine⟨u+1,?_,kN (kc1 hps) [],?_⟩
              ·omega
              ·omega
            ·rw[if_neg (by omega)]at hps;refine kw kO (kc5 gn gw gp hWl hnl) kc0 ?_
             repeat' first|exact True.intro|refine Bn.mk ?_ ?_|intro hc
             all_goals
              refine⟨u+1,?_,kN (kc1 hps) [],?_⟩
              ·omega
              ·omega
          ·have:u=i:=by omega
           subst this;refine Zau _ (Zc2 35 7 _ rfl (ZcP _ rfl) (by decide)) ?_;have htkw:(W.map Zkm).take u=W.map Zkm:=by rw[<-hWl];exact Zat _ _
           have hsm:=Zml W f nd (ZaK W nd u) K;obtain⟨p,hp⟩:∃p:Nat,ZaK W nd u=p:=⟨(ZaK W nd u).toNat,by omega⟩;obtain⟨s,hs⟩:∃s:Nat,Zao W (ZaK W nd u) K=s:=⟨(Zao W (ZaK W nd u) K).toNat,by omega⟩;rw[hs]at hsend hcf hbk hsm;rw[hp]at hsend hcf hpk hsm hmm;rw[uQ,uQ]at hcf;have gs:=ZaS (r:=nd) (i:=s) (by omega);have gp:=ZaS (r:=nd) (i:=p) (by omega);have ns:=hnw s;have np:=hnw p;generalize Zei W f nd p K=m at hsend hcf hsm;have gq:((List.map D.int nd).set s (D.sc (.int .i64 (at0 nd s+m))))[p]? =some (D.int (at0 (nd.set s (at0 nd s+m)) p)):=by
            rw[<-yR,uI,ZaS (by rw[yL];omega)];rfl
           have hq2:-2251799813685248<=at0 (nd.set s (at0 nd s+m)) p/\at0 (nd.set s (at0 nd s+m)) p<=2251799813685248:=by
            rw[Zgv _ _ _ _ (by omega)];split<;>omega
           refine kw1 kO (kc8 hp hfl hnl hWl htkw @qS.{0} gs (kc2 gq @yL.{0})) (kc1 (kmc [(1000,1000),(1001,1001),(1002,14)] hsend)) ?_;refine⟨(r,Zbw W f m p K,(nd.set s (at0 nd s+m)).set p (at0 (nd.set s (at0 nd s+m)) p-m)),?_,kN (kc1 @yR.{0,0}) [],?_⟩
           ·exact⟨hcf,by rw[ZgU,hfl],by rw[yL,yL,hnl]⟩
           ·show r<r+1;omega
        ·rw[if_neg hcond]at hcf;cases hcf
     ·rw[hem,if_pos rfl]at hcf;cases hcf;have h0:(ZbG nd i).length=0:=by
       rw[Aj]at hem;rw[hem];rfl
      refine kw1 kP (kc1 h0) kc0 ?_;refine Za1 ?_;exact⟨⟨_,rfl,trivial⟩,uK.2 ⟨rfl,uK.2 ⟨rfl,yA _⟩⟩⟩
def zeros (l:List Bd):List Int:=List.replicate l.length 0
theorem Zi9 (n:Nat):(∀x∈ZbQ n,0<=x/\x<(n:Int))/\(ZbQ n).length=n:=by
 refine⟨λ x hx=>?_,by simp[ZbQ]⟩;obtain⟨u,hu,rfl⟩:=uN.1 hx;have:=yD.1 hu;omega
theorem ZpN (n:Nat)(l:List Bd):pD n l (zeros l)= .pt [.int n,ZdZ l, .sl (List.replicate l.length (D.sc (.int .i64 0)))]:=by simp[pD,zeros]
theorem ZrP (n:Nat)(l:List Bd)(hg:nOk (n,l)=true)(hno:ZbT n (Zas l (zeros l)) (ZbQ n)=none):
  Zaf Tryz.prog 96 [.d (nD (n,l))] [(2000, .dead),(2001, .dead)] (.tup [.nilS, .nilS, .int 9]) [(2000, .dead),(2001, .dead)]:=by
 have hv:Zaa Tryz.prog 159 [nD (n,l)] (.bool true):=hg▸Ze7 (n,l);obtain⟨h1,h2,h3,h4⟩:=ZgN hg;dsimp only at h1 h2 h3 h4;obtain⟨a1,a2⟩:=Zi9 n;have hall:=ZkB n l (zeros l) (by omega);have hlong:=(ZjJ n l (zeros l) (ZbQ n) (by omega) (by omega) (by simp[zeros]) (λ k b hb=>by have:=h4 k b hb;omega) a1 (by omega)).2 hno;have htk:(List.replicate l.length (D.sc (.int .i64 0))).take l.length=List.replicate l.length (D.sc (.int .i64 0)):=uD (by simp);have htk2:((ZbQ n).map D.int).take n=(ZbQ n).map D.int:=uD (by simp[a2]);rw[ZpN]at hall hlong;refine kM Tryz.func96 ?_;intro B X w0;refine kw1 kP (kc6 htk htk2 a2 @qS.{0} @zI.{0,0} @qV.{0}) (kc3 hv (kfc [(2000,25)] hall) (kfc [(2000,26)] hlong)) ?_;refine Za1 ?_;exact⟨⟨_,rfl,rfl,rfl,rfl,trivial⟩,uK.2 ⟨rfl,uK.2 ⟨rfl,yA _⟩⟩⟩
def ZeW (W:List Way):List Int:=W.map (·.1)
theorem Zm9 (n:Nat)(l:List Bd)(f:List Int)(R:Nat)(W0 W:List Way)(hg:nOk (n,l)=true)(h0:ZbT n (Zas l (zeros l)) (ZbQ n)=some W0)
  (hc:Zfb n l R (zeros l) (Zbv l n l.length)=some f)(hfl:f.length=l.length)(hW:ZbT n (Zas l f) (ZbQ n)=some W)(hWl:W.length=n):
  Zaf Tryz.prog 96 [.d (nD (n,l))] [(2000, .dead),(2001, .dead)] (.tup [.ref 2000 1 0 n n, .ref 2001 1 0 l.length l.length, .int 0]) [(2000, .row 1 (intsL (ZeW W))),(2001, .row 1 (intsL f))]:=by
 have hv:Zaa Tryz.prog 159 [nD (n,l)] (.bool true):=hg▸Ze7 (n,l);obtain⟨h1,h2,h3,h4⟩:=ZgN hg;dsimp only at h1 h2 h3 h4;obtain⟨a1,a2⟩:=Zi9 n;have hall:=ZkB n l (zeros l) (by omega);have hall2:=ZkB n l f (by omega);have hlong:=(ZjJ n l (zeros l) (ZbQ n) (by omega) (by omega) (by simp[zeros]) (λ k b hb=>by have:=h4 k b hb;omega) a1 (by omega)).1 W0 h0;have hlong2:=(ZjJ n l f (ZbQ n) (by omega) (by omega) hfl (λ k b hb=>by have:=h4 k b hb;omega) a1 (by omega)).1 W hW;have hcert:=Zs1 n l (zeros l) f R hg (by simp[zeros]) hc;have htk:(List.replicate l.length (D.sc (.int .i64 0))).take l.length=List.replicate l.length (D.sc (.int .i64 0)):=uD (by simp);have htk2:((ZbQ n).map D.int).take n=(ZbQ n).map D.int:=uD (by simp[a2]);have htk3:(f.map D.int).take l.length=f.map D.int:=uD (by simp[hfl]);have hz:intsL (zeros l)=List.replicate l.length (D.sc (.int .i64 0)):=by simp[zeros]
 rw[hz]at hcert;rw[ZpN]at hall hlong;refine kM Tryz.func96 ?_;intro B X w0;refine kw1 kP (kc8 htk htk2 htk3 a2 hfl @qS.{0} @zI.{0,0} @qV.{0}) (kc6 hv (kfc [(2000,25)] hall) (kfc [(2000,26)] hlong) (kmc [(1000,21),(1001,19)] hcert) (kfc [(2000,36)] hall2) (kfc [(2000,37)] hlong2)) ?_;refine Zai (λ(k:Nat)=>k<=n) (λ k=>[(5, .ptr 21 0 0 0),(8, .ref 37 7 0 n n),(10, .ref 42 1 0 n n),(44, .int n),(45, .int k)]) (λ k=>[(21, .cells [.int n, .d (ZdZ l), .ref 19 1 0 l.length l.length]),(19, .row 1 (intsL f)),(37, .row 7 (ZdA W)),(42, .row 1 ((Za7 (λ v=>(wAt W v).1) n k).map D.int))]) (λ k=>n-k) 0 ?_ ?_ ?_
 ·exact uJ _
 ·exact kN (kc1 @Zic) []
 ·intro k hk;have hlen:=Zdl (λ v=>(wAt W v).1) n k;rcases uF k n with hlt|hge
  ·have gw:W[k]? =some (wAt W k):=Zdy (v:=(k:Int)) hWl (by omega) (by omega);have hst:=Zib (g:=λ v=>(wAt W v).1) hlt;have gf:(Za7 (λ v=>(wAt W v).1) n k)[k]? =_:=ZeR hlt;refine kw1 kO (kc4 gw gf hWl hlen) kc0 ?_;refine⟨k+1,?_,kN (kc2 @hst.symm @yR.{0,0}) [],?_⟩
   ·omega
   ·omega
  ·refine kw1 kP kc0 kc0 ?_;have:k=n:=by omega
   subst this;have e:Za7 (λ v=>(wAt W v).1) k k=ZeW W:=by
    rw[Zia];refine qL λ u=>?_
    rw[ZeW,uI,uI];rcases uF u k with hu|hu
    ·have gw:W[u]? =some (wAt W u):=Zdy (v:=(u:Int)) hWl (by omega) (by omega);rw[gw,qQ hu];rfl
    ·rw[uP (by simpa using hu),uP (by omega)];rfl
   refine kR kc0 [(2000,42),(2001,19)] [(2, .ref 2000 1 0 _ _),(3, .ref 2001 1 0 _ _),(4, .int 0)] [(2000, .row 1 _),(2001, .row 1 _)] ?_;refine Za1 ?_;exact⟨⟨_,rfl,rfl,rfl,rfl,trivial⟩,uK.2 ⟨Zqr (by rw[e]),uK.2 ⟨rfl,yA _⟩⟩⟩
def SolveOk (g:Net)(a f:List Int):Prop:=∃n:Nat,g.1=n/\a.length=n/\f.length=g.2.length/\
 Zaf Tryz.prog 96 [.d (nD g)] [(2000, .dead),(2001, .dead)] (.tup [.ref 2000 1 0 n n, .ref 2001 1 0 g.2.length g.2.length, .int 0]) [(2000, .row 1 (intsL a)),(2001, .row 1 (intsL f))]
def SolveNo (g:Net)(e:Int):Prop:=Zaf Tryz.prog 96 [.d (nD g)] [(2000, .dead),(2001, .dead)] (.tup [.nilS, .nilS, .int e]) [(2000, .dead),(2001, .dead)]
theorem ZiP (x:Int):x.fdiv (2^min 1 64)=x/2:=by
 have:(2:Int)^min 1 64=2:=by decide
 rw[this,Cc _ (by decide)]
theorem solve_of (n:Nat)(l:List Bd)(R:Nat)(a f:List Int)(hg:nOk (n,l)=true)(h0:(ZbT n (Zas l (zeros l)) (ZbQ n)).isSome=true)
  (hc:Zfb n l R (zeros l) (Zbv l n l.length)=some f)(hfl:f.length=l.length)(hW:(ZbT n (Zas l f) (ZbQ n)).map ZeW=some a)(hal:a.length=n):SolveOk (n,l) a f:=by
 obtain⟨W0,h0⟩:=Option.isSome_iff_exists.1 h0;cases h:ZbT n (Zas l f) (ZbQ n)with
 |none=>rw[h]at hW;cases hW
 |some W=>
  rw[h]at hW;simp only[yV,uZ]at hW;subst hW;exact⟨n,rfl,hal,hfl,Zm9 n l f R W0 W hg h0 hc hfl h (by simpa[ZeW]using hal)⟩
end Go.Proofs.YtjjbhjnpeenbkaaGreatDoor.Sx
