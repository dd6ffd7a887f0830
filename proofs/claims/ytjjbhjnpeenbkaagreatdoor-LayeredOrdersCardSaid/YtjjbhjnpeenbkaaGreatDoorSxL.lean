/- The longest ways, walked. -/
import Derived.Test.YtjjbhjnpeenbkaaGreatDoorSxA
set_option linter.unusedSimpArgs false
set_option linter.unusedVariables false
set_option maxHeartbeats 16000000
namespace Go.Proofs.YtjjbhjnpeenbkaaGreatDoor.Sx
open Go Go.PS Go.Proofs
set_option maxRecDepth 100000
attribute [local irreducible] ao wpG ah ax
theorem QG {v:Int}{σ:LS}{s:Stp}(h:¬(wAt σ.1 s.1).1<(wAt σ.1 v).1+s.2.1):cw v σ s=σ:=by rw[cw,if_neg h]
theorem QJ {v:Int}{σ:LS}{s:Stp}(h:(wAt σ.1 s.1).1<(wAt σ.1 v).1+s.2.1)(Z:bAt σ.2.1 s.1=true):
  cw v σ s=(σ.1.set s.1.toNat ((wAt σ.1 v).1+s.2.1,v,s,false),σ.2.1,σ.2.2):=by rw[cw,if_pos h,if_pos Z]
theorem QF {v:Int}{σ:LS}{s:Stp}(h:(wAt σ.1 s.1).1<(wAt σ.1 v).1+s.2.1)(Z:bAt σ.2.1 s.1=false):
  cw v σ s=(σ.1.set s.1.toNat ((wAt σ.1 v).1+s.2.1,v,s,false),σ.2.1.set s.1.toNat true,σ.2.2++[s.1]):=by
 rw[cw,if_pos h,if_neg (by rw[Z];exact kY)]
abbrev iM (W:List Way):List D:=W.map u5
abbrev vC (B:List Bool):List D:=B.map D.bool
abbrev intsL (l:List Int):List D:=l.map D.int
def kl (n k:Nat):List Way:=(List.range n).map λ u=>if u<k then ik else qo
theorem rR (n k:Nat):(kl n k).length=n:=by simp[kl]
theorem tQ {n k u:Nat}(h:u<n):(kl n k)[u]? =some (if u<k then ik else qo):=by simp[kl,h]
theorem Ol (n:Nat):iM (kl n 0)=List.replicate n (u5 qo):=by
 rw[Ac];refine⟨by simp[kl],λ b h=>?_⟩;simp only[kl,gU,uR,iM]at h;obtain⟨u,_,rfl⟩:=h;simp
theorem Ok {n k:Nat}(h:k<n):(kl n k).set k ik=kl n (k+1):=by
 refine yX λ u=>?_
 by_cases Y:u<n
 ·rw[tQ Y,qF,tQ Y,rR];by_cases c:k=u
  ·subst c;rw[if_pos rfl,if_pos h,if_pos xA]
  ·rw[if_neg c];by_cases Z:u<k
   ·rw[if_pos Z,if_pos xA]
   ·rw[if_neg Z,if_neg xA]
 ·rw[uL (by rw[yJ,rR];omega),uL (by rw[rR];omega)]
theorem Oj (n:Nat)(st:List Int):kl n n=iJ n st 0:=by
 refine yX λ u=>?_
 by_cases h:u<n
 ·rw[tQ h,if_pos h];simp[iJ,h]
 ·rw[uL (by rw[rR];omega),uL (by rw[qf];omega)]
def aS (l:List Bd)(f:List Int)(v:Nat):List Stp:=kr l f v l.length
theorem S1 {n:Nat}{l:List Bd}{f:List Int}
  (X:∀(k:Nat) b,l[k]? =some b->0<=b.1/\b.1<n/\0<=b.2.1/\b.2.1<n/\b.1≠b.2.1/\-16777216<=b.2.2.1/\b.2.2.1<=16777216)(v:Nat):og n v (aS l f v):=by
 have Y:∀k,og n v (kr l f v k):=by
  intro k
  induction k with
  |zero=>intro s h;simp[kr,b8]at h
  |succ k V=>
   intro s h;simp only[kr,b8]at h;rcases yP.1 h with h|h
   ·exact V s h
   ·rw[oU]at h;split at h
    ·rename_i b Z;have:=X k b Z;rcases yP.1 h with h|h
     ·split at h
      ·rw[uX.1 h];dsimp only;omega
      ·simp at h
     ·split at h
      ·rw[uX.1 h];dsimp only;omega
      ·simp at h
    ·simp at h
 exact Y _
theorem NU (ST:Nat->List Stp)(σ:LS):c8 ST σ 0=(σ.1,σ.2.1,[]):=rfl
theorem MK (L:List Stp)(v:Int)(σ:LS):inner L v σ 0=(σ.1,σ.2.1.set v.toNat false,σ.2.2):=rfl
theorem w4 (n:Nat)(l:List Bd)(f:List Int)(st:List Int)(hn:n<=2048)(hl:l.length<=4096)(hfl:f.length=l.length)
  (hb:∀(k:Nat) b,l[k]? =some b->0<=b.1/\b.1<n/\0<=b.2.1/\b.2.1<n/\b.1≠b.2.1/\-16777216<=b.2.2.1/\b.2.2.1<=16777216)
  (hst:∀x∈st,0<=x/\x<(n:Int))(hsn:st.length<=n):
  (∀W,eP n (aS l f) st=some W->ax Tryz.prog 160 [.d (pD n l f), .d (aj st)] [(2000, .dead)] (.tup [.ref 2000 7 0 n n, .bool true]) [(2000, .row 7 (iM W))])/\
  (eP n (aS l f) st=none->ax Tryz.prog 160 [.d (pD n l f), .d (aj st)] [(2000, .dead)] (.tup [.nilS, .bool false]) [(2000, .dead)]):=by
 have H:=S2 n l f hn hl hfl hb;have N:∀v:Nat,v<n->og n v (aS l f v):=λ v _=>S1 hb v
 have C:=EW hn (H2 hst) hsn N;have E:∀(r:PV) (ob:Ob),(match eP n (aS l f) st with|some W=>r= .tup [.ref 2000 7 0 n n, .bool true]/\ob= .row 7 (iM W)|none=>r= .tup [.nilS, .bool false]/\ob= .dead)->
   ax Tryz.prog 160 [.d (pD n l f), .d (aj st)] [(2000, .dead)] r [(2000,ob)]:=by
  intro r ob Q;have hr1:r.only [2000] 4=true:=by
   revert Q;split<;>(rintro⟨rfl,rfl⟩;rfl)
  have hr2:ob.only [2000]=true:=by
   revert Q;split<;>(rintro⟨rfl,rfl⟩;rfl)
  refine CY Tryz.func160 rfl (by decide+kernel) (uQ rfl) rfl (cc rfl) hr1 (by simp[hr2]) rfl ?_;intro B X w0;refine ac kO aa (ae H) ?_;refine aq (λ(k:Nat)=>k<=n) (λ k=>[(0, .d (pD n l f)),(1, .d (aj st)),(6, .d (.sl (qg n l f))),(7, .ref 27 7 0 n n),(29, .int n),(30, .int k)]) (λ k=>[(27, .row 7 (iM (kl n k)))]) (λ k=>n-k) 0 ?_ ?_ ?_
  ·exact uF _
  ·exact kN (ai @Ol @qo.eq_1) []
  ·intro k hk;have S:=rR n k;rcases uD k n with Y|hge
   ·have hg:(kl n k)[k]? =some qo:=by rw[tQ Y,if_neg xA]
    have hstp:=Ok Y;refine ac kO (av hg S @qo.eq_1) aa ?_;refine⟨k+1,?_,kN (av @hstp.symm @yW.{0,0} @ik.eq_1) [],?_⟩
    ·omega
    ·omega
   ·refine ac kP aa aa ?_;have:k=n:=xA;subst this;rw[Oj k st];refine aq (λ(j:Nat)=>j<=st.length) (λ j=>[(0, .d (pD k l f)),(1, .d (aj st)),(6, .d (.sl (qg k l f))),(7, .ref 27 7 0 k k),(38, .d (aj st)),(39, .int st.length),(40, .int j)]) (λ j=>[(27, .row 7 (iM (iJ k st j)))]) (λ j=>st.length-j) 0 ?_ ?_ ?_
    ·exact uF _
    ·exact kN aa []
    ·intro j hj;have S:=qf k st j;rcases uD j st.length with Y|hge2
     ·obtain⟨x,hx⟩:=ak Y;have hxi:=hst x (uA hx);have hsu:=H1 (n:=k) hx;obtain⟨v,rfl⟩:∃v:Nat,x=v:=⟨x.toNat,xA⟩;have hg:(iJ k st j)[v]? =some (wAt (iJ k st j) v):=iL (v:=(v:Int)) S xA xA;rw[uK]at hsu;refine ac kO (av hx hg S) aa ?_;refine⟨j+1,?_,kN (av hsu @yW.{0,0} @f9.eq_1) [],?_⟩
      ·omega
      ·omega
     ·refine ac kP aa aa ?_;have:j=st.length:=xA;subst this;refine aq (λ(q:Nat)=>match q with|J=>J<=k+1/\dK (λ i=>(aY (aS l f) (aU k st) i).2.2.isEmpty) J=none) (λ J=>[(0, .d (pD k l f)),(6, .d (.sl (qg k l f))),(7, .ref 27 7 0 k k),(11, .d (aj (aY (aS l f) (aU k st) J).2.2)),(12, .ref 55 1 0 k k),(13, .int J)]) (λ J=>[(27, .row 7 (iM (aY (aS l f) (aU k st) J).1)),(55, .row 1 (vC (aY (aS l f) (aU k st) J).2.1))]) (λ J=>k+1-J) 0 ?_ ?_ ?_
      ·exact⟨uF _,rfl⟩
      ·exact kN (av @aY.eq_1 @aU.eq_1 @yT.{0,0}) []
      ·rintro m ⟨hm,T⟩;obtain⟨hG,hqn⟩:=C m hm;have A:aY (aS l f) (aU k st) (m+1)=c8 (aS l f) (aY (aS l f) (aU k st) m) (aY (aS l f) (aU k st) m).2.2.length:=rfl;have F:(aY (aS l f) (aU k st) m).2.2.isEmpty=true->eP k (aS l f) st=some (aY (aS l f) (aU k st) m).1:=λ h=>by
        rw[eP,pC,Ee xA T h];rfl
       have M:(aY (aS l f) (aU k st) m).2.2.isEmpty=false->dK (λ i=>(aY (aS l f) (aU k st) i).2.2.isEmpty) (m+1)=none:=λ h=>Eg T h
       try dsimp only
       generalize aY (aS l f) (aU k st) m=σ at hG hqn A F M|-;have hq40:k*(m+1)<=2048*2050:=jW hn xA;rcases U:σ.2.2.isEmpty with _|_
       ·have hpos:0<σ.2.2.length:=by
         rcases qO σ.2.2.length with h|h
         ·rw[gQ.1 h]at U;cases U
         ·exact h
        rcases uD k m with hbig|hsmall
        ·have e:eP k (aS l f) st=none:=by
          have:m+1=k+2:=xA;have h2:=M U;rw[this]at h2;rw[eP,pC,h2];rfl
         rw[e]at Q;obtain⟨rfl,rfl⟩:=Q;refine ac kP aa aa ?_;refine kR aa [(2000,900)] [(4, .nilS),(5, .bool false)] [(2000, .dead)] ?_;refine aV ?_;exact⟨⟨_,rfl,rfl,rfl,trivial⟩,uM.2 ⟨rfl,yB _⟩⟩
        ·refine ac kP aa aa ?_;refine aC _ (dg 14 900 1 rfl rfl) ?_;refine aq (λ(j:Nat)=>j<=σ.2.2.length) (λ j=>[(0, .d (pD k l f)),(6, .d (.sl (qg k l f))),(7, .ref 27 7 0 k k),(12, .ref 55 1 0 k k),(13, .int ((m:Int)+1)),(14, .ref 900 1 0 (c8 (aS l f) σ j).2.2.length (c8 (aS l f) σ j).2.2.length),(68, .d (aj σ.2.2)),(69, .int σ.2.2.length),(70, .int j)]) (λ j=>[(27, .row 7 (iM (c8 (aS l f) σ j).1)),(55, .row 1 (vC (c8 (aS l f) σ j).2.1)),(900, .row 1 (intsL (c8 (aS l f) σ j).2.2))]) (λ j=>σ.2.2.length-j) 0 ?_ ?_ ?_
         ·exact uF _
         ·exact kN (ae @NU) []
         ·intro j hj;rcases uD j σ.2.2.length with hjl|hjg
          ·obtain⟨x,hx⟩:=ak hjl;have hxi:=hG.2.2.1 x (uA hx);obtain⟨v,rfl⟩:∃v:Nat,x=v:=⟨x.toNat,xA⟩;have V:=xa hG N j xA;have hin:=EL V (v:=(v:Int)) (L:=aS l f v) xA xA (N v xA);have z:=rN (ST:=aS l f) hx;rw[uK]at z;have hcnt:∀τ:LS,jz k (70437463654400*m+16777216*j+16777216) (j+1) τ->τ.2.2.length<=4300000:=λ τ h=>by
            have h1:=h.2.2.2.2;have h2:τ.2.1.count true<=k:=by rw[<-h.2.1];exact List.count_le_length
            omega
           try dsimp only
           generalize c8 (aS l f) σ j=G at V hin z|-;have hs:=uw l f v l.length;have hsl:(f5 l f l.length v)=(aS l f v).map stD:=rfl;have hsr:(List.map (λ v=>D.sl (f5 l f l.length v)) (List.range k))[v]? =some (.sl ((aS l f v).map stD)):=by simp[show v<k by omega];rfl
           rw[hsl,uC]at hs;have gb:G.2.1[v]? =some (bAt G.2.1 v):=vr (v:=(v:Int)) V.2.1 xA xA;have l1:=V.1;have l2:=V.2.1;refine ac kO (bq hx gb l1 l2 hsr @kB) aa ?_;refine aq (λ(i:Nat)=>i<=(aS l f v).length) (λ i=>[(0, .d (pD k l f)),(6, .d (.sl (qg k l f))),(7, .ref 27 7 0 k k),(12, .ref 55 1 0 k k),(13, .int ((m:Int)+1)),(14, .ref 900 1 0 (inner (aS l f v) v G i).2.2.length (inner (aS l f v) v G i).2.2.length),(16, .int v),(68, .d (aj σ.2.2)),(69, .int σ.2.2.length),(70, .int j),(80, .d (.sl ((aS l f v).map stD))),(81, .int (aS l f v).length),(82, .int i)]) (λ i=>[(27, .row 7 (iM (inner (aS l f v) v G i).1)),(55, .row 1 (vC (inner (aS l f v) v G i).2.1)),(900, .row 1 (intsL (inner (aS l f v) v G i).2.2))]) (λ i=>(aS l f v).length-i) 0 ?_ ?_ ?_
           ·exact uF _
           ·exact kN (av @MK @yW.{0,0} @uK) []
           ·intro i hi;rcases uD i (aS l f v).length with hil|hig
            ·obtain⟨s,K⟩:=ak hil;obtain⟨R,hvi⟩:=hin i;have hsi:=N v xA s (uA K);have Z:=rB (v:=(v:Int)) (σ:=G) K;have hlq:=hcnt _ R
             try dsimp only
             generalize inner (aS l f v) v G i=τ at R hvi Z hlq|-;obtain⟨W,Bs,q⟩:=τ;obtain⟨to,len,bd,bk⟩:=s;obtain⟨u,rfl⟩:∃u:Nat,to=u:=⟨to.toNat,by have:=hsi.1;dsimp only at this;omega⟩;dsimp only at hsi hvi hlq Z;have g1:W.length=k:=R.1;have g2:Bs.length=k:=R.2.1;have gv:W[v]? =some (wAt W v):=iL (v:=(v:Int)) g1 xA xA;have gu:W[u]? =some (wAt W u):=iL (v:=(u:Int)) g1 xA xA;have O:Bs[u]? =some (bAt Bs u):=vr (v:=(u:Int)) g2 xA xA;have bv:=R.2.2.2.1 _ (uA gv);have bu:=R.2.2.2.1 _ (uA gu);have htk:(List.map D.int q).take q.length=List.map D.int q:=aA _ _;rcases gJ ((wAt W u).1<(wAt W v).1+len)with Y|Y
             ·rcases I:bAt Bs u with _|_
              ·rw[QF Y I]at Z;rw[I]at O;dsimp only at Z;rw[uK]at Z;refine ac kO (bj K gv gu O g1 g2 htk @yJ.{0}) aa ?_;refine⟨i+1,?_,kN (aE Z @yW.{0,0} @uO.{0,0} @uH.{0}) [(900,124)],?_⟩
               ·omega
               ·omega
              ·rw[QJ Y I]at Z;rw[I]at O;dsimp only at Z;rw[uK]at Z;refine ac kO (bj K gv gu O g1 g2 htk @yJ.{0}) aa ?_;refine⟨i+1,?_,kN (ai Z @yW.{0,0}) [],?_⟩
               ·omega
               ·omega
             ·rw[QG Y]at Z;refine ac kO (bj K gv gu O g1 g2 htk @yJ.{0}) aa ?_;refine⟨i+1,?_,kN (ai Z @yW.{0,0}) [],?_⟩
              ·omega
              ·omega
            ·have:i=(aS l f v).length:=xA;subst this;refine ac kO aa aa ?_;refine⟨j+1,?_,kN (ae z) [],?_⟩
             ·omega
             ·omega
          ·have:j=σ.2.2.length:=xA;subst this;have V:=xa hG N σ.2.2.length (uI _);rw[<-A]at V;have M:=M U
           try dsimp only
           rw[<-A];generalize hnext:aY (aS l f) (aU k st) (m+1)=τ at V|-;refine aC _ (fo 900 1 _ rfl (fa _ rfl) xC) ?_;refine ac kO (ai @qD.{0} @aA) aa ?_;refine⟨m+1,?_,kN (aQ @hnext @qD.{0} @aA @qQ @gN) [],?_⟩
           ·exact⟨xA,M⟩
           ·omega
       ·have e:=F U;have h0:σ.2.2.length=0:=by
         rw[Ap]at U;rw[U];rfl
        rw[e]at Q;obtain⟨rfl,rfl⟩:=Q;refine ac kP (ae h0) aa ?_;refine kR aa [(2000,27)] [(4, .ref 2000 7 0 _ _),(5, .bool true)] [(2000, .row 7 _)] ?_;refine aV ?_;exact⟨⟨_,rfl,rfl,rfl,trivial⟩,uM.2 ⟨rfl,yB _⟩⟩
 refine⟨λ W hW=>E _ _ (by rw[hW];exact⟨rfl,rfl⟩),λ hN=>E _ _ (by rw[hN];exact⟨rfl,rfl⟩)⟩
def az (W:List Way)(v:Int):Nat->Int
 |0=>v
 |k+1=>(wAt W (az W v k)).2.1
def aR (W:List Way)(v:Int)(k:Nat):Stp:=(wAt W (az W v k)).2.2.1
def d9 (W:List Way)(f:List Int)(m0 v:Int):Nat->Int
 |0=>m0
 |k+1=>if(aR W v k).2.2.2 then min (d9 W f m0 v k) (at0 f (aR W v k).2.2.1)else d9 W f m0 v k
def cG (W:List Way)(f:List Int)(m v:Int):Nat->List Int
 |0=>f
 |k+1=>(cG W f m v k).set (aR W v k).2.2.1.toNat (at0 (cG W f m v k) (aR W v k).2.2.1+(if(aR W v k).2.2.2 then -m else m))
theorem im (W:List Way)(v:Int)(k:Nat):az W v (k+1)=(wAt W (az W v k)).2.1:=rfl
theorem tL (W:List Way)(f:List Int)(m0 v:Int)(k:Nat):d9 W f m0 v (k+1)=if(aR W v k).2.2.2 then min (d9 W f m0 v k) (at0 f (aR W v k).2.2.1)else d9 W f m0 v k:=rfl
theorem sr (W:List Way)(f:List Int)(m v:Int)(k:Nat):cG W f m v (k+1)=(cG W f m v k).set (aR W v k).2.2.1.toNat (at0 (cG W f m v k) (aR W v k).2.2.1+(if(aR W v k).2.2.2 then -m else m)):=rfl
def kq (W:List Way)(f Z:List Int)(t:Int)(K:Nat):Int:=min (d9 W f (at0 Z t) t K) (-(at0 Z (az W t K)))
theorem yw (W:List Way)(f Z:List Int)(t:Int)(K:Nat):kq W f Z t K=min (d9 W f (at0 Z t) t K) (-(at0 Z (az W t K))):=rfl
theorem l9 (W:List Way)(f:List Int)(m v:Int):∀k,(cG W f m v k).length=f.length
 |0=>rfl
 |k+1=>by simp[cG,l9 W f m v k]
theorem HE {W:List Way}{f:List Int}{m v F M:Int}(h:d5 f F)(Y:0<=M)(X:-M<=m/\m<=M):∀k:Nat,d5 (cG W f m v k) (F+M*k)
 |0=>by simpa[cG]using h
 |k+1=>by
  have Z:=HE (W:=W) (v:=v) h Y X k;have V:=Z (aR W v k).2.2.1;have e:F+M*((k+1:Nat):Int)=F+M*k+M:=by rw[qQ,gN,zN,Int.mul_one,kH]
  rw[e,cG];refine z6 (mb Z xA) ?_ ?_<;>split<;>omega
theorem xh {W:List Way}{f:List Int}{m0 v F:Int}(h:d5 f F)(Z:-F<=m0/\m0<=F):∀k:Nat,-F<=d9 W f m0 v k/\d9 W f m0 v k<=F
 |0=>by simpa[d9]using Z
 |k+1=>by
  have X:=xh (W:=W) (v:=v) h Z k;have Y:=h (aR W v k).2.2.1;rw[d9];split<;>omega
def vi (n m:Nat)(W:List Way):Prop:=W.length=n/\∀w∈W,0<=w.2.1/\w.2.1<(n:Int)/\0<=w.2.2.1.2.2.1/\w.2.2.1.2.2.1<(m:Int)
theorem vt {n m:Nat}{W:List Way}{v:Int}(h:vi n m W)(Z:0<=v)(Y:v<n):∀k,0<=az W v k/\az W v k<n
 |0=>⟨Z,Y⟩
 |k+1=>by
  obtain⟨X,V⟩:=vt h Z Y k;have:=h.2 _ (uA (iL h.1 X V));exact⟨this.1,this.2.1⟩
abbrev pM (n:Nat)(l:List Bd)(m:Nat):Ob:= .cells [.int n, .d (cX l), .ref 1001 1 0 m m]
theorem RV (n:Nat)(l:List Bd)(f:List Int)(W:List Way)(t:Int)(S:List Int)(K:Nat)(hn:n<=2048)(hW:vi n f.length W)(I:S.length=n)
  (ht:0<=t/\t<n)(hK:K<=n)(h1:∀j,j<K->(wAt W (az W t j)).2.2.2=false)(h2:(wAt W (az W t K)).2.2.2=true)(hf:d5 f 1125899906842624)(E:d5 S 1125899906842624):
  ax Tryz.prog 213 [.ptr 1000 0 0 0, .d (.sl (iM W)), .int t, .ref 1002 1 0 n n] [(1000,pM n l f.length),(1001, .row 1 (intsL f)),(1002, .row 1 (intsL S))]
   (.tup [.int (az W t K), .int (kq W f S t K)]) [(1000,pM n l f.length),(1001, .row 1 (intsL (cG W f (kq W f S t K) t K))),(1002, .row 1 (intsL S))]:=by
 have J:=vt hW ht.1 ht.2;have hms:=xh (W:=W) (v:=t) (m0:=at0 S t) hf (E t);have A:∀k,∃b:Nat,(aR W t k).2.2.1=b/\b<f.length:=by
  intro k;have:=hW.2 _ (uA (iL hW.1 (J k).1 (J k).2));exact⟨(aR W t k).2.2.1.toNat,by rw[aR];omega,by rw[aR];omega⟩
 refine kM Tryz.func213 ?_;intro B X w0;obtain⟨V,rfl⟩:∃V:Nat,t=V:=⟨t.toNat,xA⟩;have gnt:=aK (r:=S) (i:=V) xA;have T:=hW.1;refine ac kO (ai gnt I) aa ?_;refine aq (λ(k:Nat)=>k<=K) (λ k=>[(0, .ptr 1000 0 0 0),(1, .d (.sl (iM W))),(2, .int V),(3, .ref 1002 1 0 n n),(10, .int (az W V k)),(11, .int (d9 W f (at0 S V) V k)),(12, .int (az W V k))]) (λ k=>[(1000,pM n l f.length),(1001, .row 1 (intsL f)),(1002, .row 1 (intsL S))]) (λ k=>K-k) 0 ?_ ?_ ?_
 ·exact uF _
 ·exact kN (ai @az.eq_1 @d9.eq_1) []
 ·intro k hk;obtain⟨b,Y,F⟩:=A k;have z:=aK F;have hbb:=hf b;have hmk:=hms k;have Z:=tL W f (at0 S V) V k;have U:=im W V k;obtain⟨N,L⟩:=J k;have R:(wAt W (az W V k)).2.2.2=decide (k=K):=by
   rcases gJ (k=K)with h|h
   ·rw[h,h2];simp
   ·rw[h1 k xA,uW h]
  rw[Y]at Z;rw[aR]at Y Z;obtain⟨v,G⟩:∃v:Nat,az W V k=v:=⟨(az W V k).toNat,xA⟩;rw[G]at N L U R Z Y;have q:W[v]? =some (wAt W v):=iL (v:=(v:Int)) T N L;rcases uD k K with hlt|hge
  ·rw[uW (show k≠K by omega)]at R;generalize hw:wAt W v=w at q U R Z Y;obtain⟨lg,fr,⟨s1,s2,s3,s4⟩,bg⟩:=w;dsimp only at U R Z Y;subst R;cases s4 with
   |false=>
    rw[if_neg xC]at Z;refine ac kO (aE q G T Y) aa ?_;refine⟨k+1,?_,kN (ai U Z) [],?_⟩
    ·omega
    ·omega
   |true=>
    rw[if_pos rfl]at Z;refine ac kO (bq q G T Y z @lS) aa ?_;refine⟨k+1,?_,kN (ai U Z) [],?_⟩
    ·omega
    ·omega
  ·have:k=K:=xA;subst this;rw[uZ rfl]at R;have gnv:=aK (r:=S) (i:=v) xA;have hnv:=E v;have H:=yw W f S V k;rw[G]at H;have O:=HE (W:=W) (v:=(V:Int)) (m:=kq W f S V k) (M:=1125899906842624) hf xA xA;have hfr:az W V k=v:=G;refine ac kP (bV q G T R gnv I @lS) aa ?_;rw[<-H];generalize kq W f S V k=m at H O|-;refine aq (λ(j:Nat)=>j<=k) (λ j=>[(0, .ptr 1000 0 0 0),(1, .d (.sl (iM W))),(10, .int v),(11, .int m),(14, .int (az W V j))]) (λ j=>[(1000,pM n l f.length),(1001, .row 1 (intsL (cG W f m V j))),(1002, .row 1 (intsL S))]) (λ j=>k-j) 0 ?_ ?_ ?_
   ·exact uF _
   ·exact kN (ai @az.eq_1 @cG.eq_1) []
   ·intro j hj;obtain⟨b,Y,F⟩:=A j;have C:=l9 W f m V j;have z:=aK (r:=cG W f m V j) (i:=b) xA;have hbb:=O j b;have Z:=sr W f m V j;have U:=im W V j;obtain⟨N,L⟩:=J j;have Q:(wAt W (az W V j)).2.2.2=decide (j=k):=by
     rcases gJ (j=k)with h|h
     ·rw[h,h2];simp
     ·rw[h1 j xA,uW h]
    rw[Y,uK]at Z;rw[aR]at Y Z;obtain⟨u,hu⟩:∃u:Nat,az W V j=u:=⟨(az W V j).toNat,xA⟩;rw[hu]at N L U Q Z Y;have s:W[u]? =some (wAt W u):=iL (v:=(u:Int)) T N L;rcases uD j k with hlt|hge2
    ·rw[uW (show j≠k by omega)]at Q;generalize hw:wAt W u=w at s U Q Z Y;obtain⟨lg,fr,⟨s1,s2,s3,s4⟩,bg⟩:=w;dsimp only at U Q Z Y;subst Q;cases s4 with
     |false=>
      rw[if_neg xC]at Z;refine ac kO (bq s hu T Y z C) aa ?_;refine⟨j+1,?_,kN (av U Z @yW.{0,0}) [],?_⟩
      ·omega
      ·omega
     |true=>
      rw[if_pos rfl]at Z;refine ac kO (bq s hu T Y z C) aa ?_;refine⟨j+1,?_,kN (aE U Z @yW.{0,0} @Dj) [],?_⟩
      ·omega
      ·omega
    ·have:j=k:=xA;subst this;rw[uZ rfl]at Q;refine ac kP (aE s hu T Q) aa ?_;refine aV ?_;exact⟨⟨_,rfl,rfl,rfl,trivial⟩,uM.2 ⟨rfl,uM.2 ⟨rfl,uM.2 ⟨rfl,yB _⟩⟩⟩⟩
def nz (Z:List Int)(v:Nat):List Int:=if at0 Z v<0 then[(v:Int)]else[]
def dP (Z:List Int)(k:Nat):List Int:=b8 (nz Z) k
def bF (W:List Way)(Z:List Int):Nat->Int
 |0=>-1
 |k+1=>if 0<at0 Z k/\-576460752303423488<(wAt W k).1/\(bF W Z k<0\/(wAt W (bF W Z k)).1<(wAt W k).1)then k else bF W Z k
def y8 (W:List Way)(t:Int)(m:Nat):Option Nat:=dK (λ k=>(wAt W (az W t k)).2.2.2) m
def oY (n m:Nat)(W:List Way):Bool:=decide (W.length=n)&&W.all λ w=>decide (0<=w.2.1/\w.2.1<(n:Int)/\0<=w.2.2.1.2.2.1/\w.2.2.1.2.2.1<(m:Int))
def inB (f:List Int):Bool:=f.all λ x=>decide (-1125899906842624<=x/\x<=1125899906842624)
def tf (n:Nat)(l:List Bd)(f Z:List Int):Option (List Int×List Int):=
 match eP n (aS l f) (dP Z n)with
 |none=>none
 |some W=>match y8 W (bF W Z n) (n+1)with
  |none=>none
  |some K=>if(decide (0<=bF W Z n)&&oY n l.length W&&inB f&&inB Z)=true then
   some (cG W f (kq W f Z (bF W Z n) K) (bF W Z n) K,
    (Z.set (az W (bF W Z n) K).toNat (at0 Z (az W (bF W Z n) K)+kq W f Z (bF W Z n) K)).set (bF W Z n).toNat
     (at0 (Z.set (az W (bF W Z n) K).toNat (at0 Z (az W (bF W Z n) K)+kq W f Z (bF W Z n) K)) (bF W Z n)-kq W f Z (bF W Z n) K))else none
def mi (n:Nat)(l:List Bd):Nat->List Int->List Int->Option (List Int)
 |0,_,_=>none
 |r+1,f,Z=>if(dP Z n).isEmpty then some f else match tf n l f Z with
  |none=>none
  |some s=>mi n l r s.1 s.2
theorem tx {f:List Int}(h:inB f=true):d5 f 1125899906842624:=by
 intro v;rw[at0];cases Z:f[v.toNat]? with
 |none=>simp
 |some x=>
  simp only[inB,yF,uG]at h;exact h x (uA Z)
theorem TZ {n m:Nat}{W:List Way}(h:oY n m W=true):vi n m W:=by
 simp only[oY,uN,uG,yF]at h;exact h
theorem wn {p:Nat->Bool}:∀{m k:Nat},dK p m=some k->k<m/\p k=true/\∀j,j<k->p j=false:=by
 intro m
 induction m with
 |zero=>intro k h;simp[dK]at h
 |succ m M=>
  intro k h;rw[dK]at h;cases X:dK p m with
  |some j=>
   rw[X]at h;simp only[yM]at h;subst h;obtain⟨L,R,Q⟩:=M X;exact⟨xA,R,Q⟩
  |none=>
   rw[X]at h;have V:∀j,j<m->p j=false:=by
    intro j O;cases Y:p j with
    |false=>rfl
    |true=>
     exfalso;have S:∀m,j<m->dK p m≠none:=by
      intro m
      induction m with
      |zero=>intro h;omega
      |succ m T=>
       intro N Z;rw[dK]at Z;cases U:dK p m with
       |some i=>rw[U]at Z;simp at Z
       |none=>
        rw[U]at Z;rcases uD j m with h|h
        ·exact T h U
        ·have:j=m:=xA;subst this;simp[Y]at Z
     exact S m O X
   by_cases Y:p m=true
   ·simp[Y]at h;subst h;exact⟨xA,Y,V⟩
   ·simp[Y]at h
theorem rQ (Z:List Int):∀k,(∀x∈dP Z k,0<=x/\x<(k:Int))/\(dP Z k).length<=k
 |0=>by simp[dP,b8]
 |k+1=>by
  obtain⟨Y,X⟩:=rQ Z k;simp only[dP,b8]at Y X|-;refine⟨λ x h=>?_,?_⟩
  ·rcases yP.1 h with h|h
   ·have:=Y x h;omega
   ·rw[nz]at h;split at h
    ·rw[uX.1 h];omega
    ·simp at h
  ·rw[uH,nz];split<;>simp<;>omega
theorem tV (W:List Way)(Z:List Int):∀k,bF W Z k<(k:Int)/\-1<=bF W Z k
 |0=>by simp[bF]
 |k+1=>by
  have:=tV W Z k;rw[bF];split<;>omega
theorem KM (n:Nat)(l:List Bd)(G f1:List Int)(R:Nat)(hg:nOk (n,l)=true)(U:G.length=l.length)(hc:mi n l R G (dz l n l.length)=some f1):
  ax Tryz.prog 162 [.ptr 1000 0 0 0] [(1000,pM n l l.length),(1001, .row 1 (intsL G))] (.tup []) [(1000,pM n l l.length),(1001, .row 1 (intsL f1))]:=by
 obtain⟨h1,h2,h3,h4⟩:=pR hg;dsimp only at h1 h2 h3 h4;have L:=N6 n l G hg;have V:=pT l n l.length;generalize dz l n l.length=nd0 at hc L V;refine kM Tryz.func162 ?_;intro B X w0;have htk0:(G.map D.int).take l.length=G.map D.int:=by rw[<-U];exact aA _ _
 refine ac kO (av U htk0 @qD.{0}) (ae (kfc [(2000,14)] L)) ?_;refine aq (λ(q:Nat×List Int×List Int)=>match q with|⟨r,f,Z⟩=>mi n l r f Z=some f1/\f.length=l.length/\Z.length=n) (λ⟨r,f,Z⟩=>[(0, .ptr 1000 0 0 0),(2, .ref 14 1 0 n n)]) (λ⟨r,f,Z⟩=>[(1000,pM n l l.length),(1001, .row 1 (intsL f)),(14, .row 1 (intsL Z))]) (λ⟨r,f,Z⟩=>r) (R,G,nd0) ?_ ?_ ?_
 ·exact⟨hc,U,V⟩
 ·exact kN aa []
 ·rintro⟨r,f,Z⟩ ⟨Y,U,V⟩
  try dsimp only
  cases r with
  |zero=>rw[mi]at Y;cases Y
  |succ r=>
   rw[mi]at Y;refine ac kO aa aa ?_;refine aC _ (dg 3 900 1 rfl rfl) ?_;refine aq (λ(i:Nat)=>i<=n) (λ i=>[(0, .ptr 1000 0 0 0),(2, .ref 14 1 0 n n),(3, .ref 900 1 0 (dP Z i).length (dP Z i).length),(15, .ref 14 1 0 n n),(16, .int n),(17, .int i)]) (λ i=>[(1000,pM n l l.length),(1001, .row 1 (intsL f)),(14, .row 1 (intsL Z)),(900, .row 1 (intsL (dP Z i)))]) (λ i=>n-i) 0 ?_ ?_ ?_
   ·exact uF _
   ·exact kN aa []
   ·intro i hi;rcases uD i n with hin|hin
    ·have gi:=aK (r:=Z) (i:=i) xA;have I:dP Z (i+1)=dP Z i++nz Z i:=rfl;have hnl2:=(rQ Z i).2;rcases gJ (at0 Z i<0)with J|J
     ·rw[nz,if_pos J]at I;refine ac kO (av gi V @aA) aa ?_;refine⟨i+1,?_,kN (av I @uO.{0,0} @uH.{0}) [(900,27)],?_⟩
      ·omega
      ·omega
     ·rw[nz,if_neg J,yS]at I;refine ac kO (av gi V @aA) aa ?_;refine⟨i+1,?_,kN (ae I) [],?_⟩
      ·omega
      ·omega
    ·have:i=n:=xA;subst this;obtain⟨hs1,hs2⟩:=rQ Z i;refine aC _ (fo 900 1 _ rfl (fa _ rfl) xC) ?_;rcases M:(dP Z i).isEmpty with _|_
     ·rw[M]at Y;rw[if_neg xC,tf]at Y;have hpos:0<(dP Z i).length:=by
       rcases qO (dP Z i).length with h|h
       ·rw[gQ.1 h]at M;cases M
       ·exact h
      have N:=(w4 i l f (dP Z i) xA xA U (λ k b hb=>by have:=h4 k b hb;omega) hs1 hs2).1;cases hW:eP i (aS l f) (dP Z i)with
      |none=>rw[hW]at Y;cases Y
      |some W=>
       rw[hW]at Y;have N:=N W hW;dsimp only at Y;cases hK:y8 W (bF W Z i) (i+1)with
       |none=>rw[hK]at Y;cases Y
       |some K=>
        rw[hK]at Y;dsimp only at Y;by_cases S:(decide (0<=bF W Z i)&&oY i l.length W&&inB f&&inB Z)=true
        ·rw[if_pos S]at Y;dsimp only at Y;simp only[uN,uG]at S;obtain⟨⟨⟨c1,c2⟩,c3⟩,c4⟩:=S;obtain⟨k1,k2,k3⟩:=wn hK;have F:=TZ c2;have C:=tV W Z i;have T:=RV i l f W (bF W Z i) Z K xA (U▸F) V ⟨c1,C.1⟩ xA k3 k2 (tx c3) (tx c4);rw[U]at T;have E:=tx c4;have hmm:=xh (W:=W) (v:=bF W Z i) (m0:=at0 Z (bF W Z i)) (tx c3) (E _) K;have hsl:=l9 W f (kq W f Z (bF W Z i) K) (bF W Z i) K;have hbk:=vt F c1 C.1 K;have O:=F.1;have htkf:(f.map D.int).take l.length=f.map D.int:=by rw[<-U];exact aA _ _
         refine ac kO (aQ U V htkf @aA @qD.{0}) (ae (kfc [(2000,35)] N)) ?_;refine aq (λ(u:Nat)=>u<=i) (λ u=>[(0, .ptr 1000 0 0 0),(2, .ref 14 1 0 i i),(6, .ref 35 7 0 i i),(8, .int (bF W Z u)),(38, .ref 14 1 0 i i),(39, .int i),(40, .int u)]) (λ u=>[(1000,pM i l l.length),(1001, .row 1 (intsL f)),(14, .row 1 (intsL Z)),(35, .row 7 (iM W))]) (λ u=>i-u) 0 ?_ ?_ ?_
         ·exact uF _
         ·exact kN aa []
         ·intro u hu;rcases uD u i with hui|hui
          ·have gn:=aK (r:=Z) (i:=u) xA;have gw:W[u]? =some (wAt W u):=iL (v:=(u:Int)) O xA xA;obtain⟨q1,q2⟩:=tV W Z u;have Q:bF W Z (u+1)=if 0<at0 Z u/\-576460752303423488<(wAt W u).1/\(bF W Z u<0\/(wAt W (bF W Z u)).1<(wAt W u).1)then(u:Int)else bF W Z u:=rfl
           generalize bF W Z u=p at q1 q2 Q|-;rcases Bq p 0 with hp|hp
           ·rcases gJ (0<at0 Z u/\-576460752303423488<(wAt W u).1)with H|H
            ·rw[if_pos ⟨H.1,H.2, .inl hp⟩]at Q;refine ac kO (aE gn gw O V) aa ?_
             all_goals
              refine⟨u+1,?_,kN (ae Q) [],?_⟩
              ·omega
              ·omega
            ·rw[if_neg xA]at Q;refine kw kO (aE gn gw O V) aa ?_
             repeat' first|exact True.intro|refine Bn.mk ?_ ?_|intro hc
             all_goals
              refine⟨u+1,?_,kN (ae Q) [],?_⟩
              ·omega
              ·omega
           ·obtain⟨z,rfl⟩:∃z:Nat,p=z:=⟨p.toNat,xA⟩;have gp:W[z]? =some (wAt W z):=iL (v:=(z:Int)) O xA xA;rcases gJ (0<at0 Z u/\-576460752303423488<(wAt W u).1/\(wAt W z).1<(wAt W u).1)with H|H
            ·rw[if_pos ⟨H.1,H.2.1, .inr H.2.2⟩]at Q;refine ac kO (aQ gn gw gp O V) aa ?_
             all_goals
              refine⟨u+1,?_,kN (ae Q) [],?_⟩
              ·omega
              ·omega
            ·rw[if_neg xA]at Q;refine kw kO (aQ gn gw gp O V) aa ?_
             repeat' first|exact True.intro|refine Bn.mk ?_ ?_|intro hc
             all_goals
              refine⟨u+1,?_,kN (ae Q) [],?_⟩
              ·omega
              ·omega
          ·have:u=i:=xA;subst this;refine aC _ (fo 35 7 _ rfl (fa _ rfl) xC) ?_;have htkw:(W.map u5).take u=W.map u5:=by rw[<-O];exact aA _ _
           have A:=yw W f Z (bF W Z u) K;obtain⟨p,hp⟩:∃p:Nat,bF W Z u=p:=⟨(bF W Z u).toNat,xA⟩;obtain⟨s,hs⟩:∃s:Nat,az W (bF W Z u) K=s:=⟨(az W (bF W Z u) K).toNat,xA⟩;rw[hs]at T Y hbk A;rw[hp]at T Y C A hmm;rw[uK,uK]at Y;have gs:=aK (r:=Z) (i:=s) xA;have gp:=aK (r:=Z) (i:=p) xA;have ns:=E s;have np:=E p;generalize kq W f Z p K=m at T Y A;have gq:((List.map D.int Z).set s (D.sc (.int .i64 (at0 Z s+m))))[p]? =some (D.int (at0 (Z.set s (at0 Z s+m)) p)):=by
            rw[<-yW,uJ,aK (by rw[yJ];omega)];rfl
           have hq2:-2251799813685248<=at0 (Z.set s (at0 Z s+m)) p/\at0 (Z.set s (at0 Z s+m)) p<=2251799813685248:=by
            rw[iY _ _ _ _ xA];split<;>omega
           refine ac kO (bj hp U V O htkw @qD.{0} gs (ai gq @yJ.{0})) (ae (dM [(1000,1000),(1001,1001),(1002,14)] T)) ?_;refine⟨(r,cG W f m p K,(Z.set s (at0 Z s+m)).set p (at0 (Z.set s (at0 Z s+m)) p-m)),?_,kN (ae @yW.{0,0}) [],?_⟩
           ·exact⟨Y,by rw[l9,U],by rw[yJ,yJ,V]⟩
           ·show r<r+1;omega
        ·rw[if_neg S]at Y;cases Y
     ·rw[M,if_pos rfl]at Y;cases Y;have h0:(dP Z i).length=0:=by
       rw[Ap]at M;rw[M];rfl
      refine ac kP (ae h0) aa ?_;refine aV ?_;exact⟨⟨_,rfl,trivial⟩,uM.2 ⟨rfl,uM.2 ⟨rfl,yB _⟩⟩⟩
def zeros (l:List Bd):List Int:=List.replicate l.length 0
theorem BJ (n:Nat):(∀x∈fB n,0<=x/\x<(n:Int))/\(fB n).length=n:=by
 refine⟨λ x Z=>?_,by simp[fB]⟩;obtain⟨u,h,rfl⟩:=uR.1 Z;have:=yD.1 h;omega
theorem O1 (n:Nat)(l:List Bd):pD n l (zeros l)= .pt [.int n,cX l, .sl (List.replicate l.length (D.sc (.int .i64 0)))]:=by simp[pD,zeros]
def jh (W:List Way):List Int:=W.map (·.1)
theorem qw (n:Nat)(l:List Bd)(f:List Int)(R:Nat)(W0 W:List Way)(I:nOk (n,l)=true)(z:eP n (aS l (zeros l)) (fB n)=some W0)
  (hc:mi n l R (zeros l) (dz l n l.length)=some f)(S:f.length=l.length)(hW:eP n (aS l f) (fB n)=some W)(U:W.length=n):
  ax Tryz.prog 96 [.d (nD (n,l))] [(2000, .dead),(2001, .dead)] (.tup [.ref 2000 1 0 n n, .ref 2001 1 0 l.length l.length, .int 0]) [(2000, .row 1 (intsL (jh W))),(2001, .row 1 (intsL f))]:=by
 have hv:ah Tryz.prog 159 [nD (n,l)] (.bool true):=I▸mU (n,l);obtain⟨s,q,h3,K⟩:=pR I;dsimp only at s q h3 K;obtain⟨E,C⟩:=BJ n;have V:=BO n l (zeros l) xA;have T:=BO n l f xA;have Z:=(w4 n l (zeros l) (fB n) xA xA (by simp[zeros]) (λ k b J=>by have:=K k b J;omega) E xA).1 W0 z;have Y:=(w4 n l f (fB n) xA xA S (λ k b J=>by have:=K k b J;omega) E xA).1 W hW;have h:=KM n l (zeros l) f R I (by simp[zeros]) hc;have G:(List.replicate l.length (D.sc (.int .i64 0))).take l.length=List.replicate l.length (D.sc (.int .i64 0)):=uE xB;have N:((fB n).map D.int).take n=(fB n).map D.int:=uE (by simp[C]);have M:(f.map D.int).take l.length=f.map D.int:=uE (by simp[S]);have hz:intsL (zeros l)=List.replicate l.length (D.sc (.int .i64 0)):=by simp[zeros]
 rw[hz]at h;rw[O1]at V Z;refine kM Tryz.func96 ?_;intro B X w0;refine ac kP (bj G N M C S @qD.{0} @yT.{0,0} @yH.{0}) (bq hv (kfc [(2000,25)] V) (kfc [(2000,26)] Z) (dM [(1000,21),(1001,19)] h) (kfc [(2000,36)] T) (kfc [(2000,37)] Y)) ?_;refine aq (λ(k:Nat)=>k<=n) (λ k=>[(5, .ptr 21 0 0 0),(8, .ref 37 7 0 n n),(10, .ref 42 1 0 n n),(44, .int n),(45, .int k)]) (λ k=>[(21, .cells [.int n, .d (cX l), .ref 19 1 0 l.length l.length]),(19, .row 1 (intsL f)),(37, .row 7 (iM W)),(42, .row 1 ((cb (λ v=>(wAt W v).1) n k).map D.int))]) (λ k=>n-k) 0 ?_ ?_ ?_
 ·exact uF _
 ·exact kN (ae @oy) []
 ·intro k hk;have Q:=fV (λ v=>(wAt W v).1) n k;rcases uD k n with O|hge
  ·have L:W[k]? =some (wAt W k):=iL (v:=(k:Int)) U xA xA;have H:=ox (g:=λ v=>(wAt W v).1) O;have A:(cb (λ v=>(wAt W v).1) n k)[k]? =_:=k7 O;refine ac kO (aE L A U Q) aa ?_;refine⟨k+1,?_,kN (ai @H.symm @yW.{0,0}) [],?_⟩
   ·omega
   ·omega
  ·refine ac kP aa aa ?_;have:k=n:=xA;subst this;have e:cb (λ v=>(wAt W v).1) k k=jh W:=by
    rw[ov];refine yX λ u=>?_
    rw[jh,uJ,uJ];rcases uD u k with F|F
    ·have L:W[u]? =some (wAt W u):=iL (v:=(u:Int)) U xA xA;rw[L,yZ F];rfl
    ·rw[uL (by simpa using F),uL xA];rfl
   refine kR aa [(2000,42),(2001,19)] [(2, .ref 2000 1 0 _ _),(3, .ref 2001 1 0 _ _),(4, .int 0)] [(2000, .row 1 _),(2001, .row 1 _)] ?_;refine aV ?_;exact⟨⟨_,rfl,rfl,rfl,rfl,trivial⟩,uM.2 ⟨yo (by rw[e]),uM.2 ⟨rfl,yB _⟩⟩⟩
def SolveOk (g:Net)(a f:List Int):Prop:=∃n:Nat,g.1=n/\a.length=n/\f.length=g.2.length/\
 ax Tryz.prog 96 [.d (nD g)] [(2000, .dead),(2001, .dead)] (.tup [.ref 2000 1 0 n n, .ref 2001 1 0 g.2.length g.2.length, .int 0]) [(2000, .row 1 (intsL a)),(2001, .row 1 (intsL f))]
theorem HN (x:Int):x.fdiv (2^min 1 64)=x/2:=by
 have:(2:Int)^min 1 64=2:=xC;rw[this,Int.fdiv_eq_ediv_of_nonneg _ xC]
theorem Balanced_ok (g:Net)(a b f f2:List Int)(h:SolveOk g a f)(L:SolveOk (mirF g) b f2)(hl:g.2.length<=1000000)(hn:a.length<=1000000)(K:fromTo a 1099511627776)(J:fromTo b 1099511627776):
  ax Tryz.prog 58 [.d (nD g)] [(2000, .dead)] (.tup [.ref 2000 1 0 a.length a.length, .int 0]) [(2000, .row 1 (intsL (midF a b)))]:=by
 obtain⟨m,l⟩:=g;obtain⟨n,E,Y,hfl,h⟩:=h;obtain⟨V,C,O,R,L⟩:=L;dsimp only at E hl hfl h;simp only[mirF]at C R L;rw[uC]at R L;obtain rfl:V=n:=xA;subst E;rw[Y];have htm:(List.map bdD (l.map mirB)).take l.length=List.map bdD (l.map mirB):=uE xB;have hbd:cX (l.map mirB)= .sl (List.map bdD (l.map mirB)):=rfl;refine kM Tryz.func58 ?_;intro B X w0;refine ac kP aa (ae (dM [(2000,900),(2001,901)] h)) ?_;refine aC _ (dm 7 1 902 4 rfl rfl rfl) ?_;refine aq (λ(k:Nat)=>k<=l.length) (λ k=>[(1, .ptr 1 0 0 0),(4, .ref 900 1 0 V V),(7, .ptr 7 0 0 0),(31, .d (cX l)),(32, .int l.length),(33, .int k)]) (λ k=>[(1, .cells [.int V, .d (cX l)]),(900, .row 1 (intsL a)),(7, .cells [.int V, .ref 902 4 0 k k]),(902, .row 4 (((l.map mirB).take k).map bdD))]) (λ k=>l.length-k) 0 ?_ ?_ ?_
 ·exact uF _
 ·exact kN aa []
 ·intro k hk;rcases uD k l.length with F|hge
  ·obtain⟨p,hp⟩:=ak F;have hm:(l.map mirB)[k]? =some (mirB p):=by rw[uJ,hp];rfl
   have hs:=aM hm;have Z:((l.map mirB).take k).length=k:=by rw[yA,uC];omega
   have htk:(List.map bdD ((l.map mirB).take k)).take k=List.map bdD ((l.map mirB).take k):=uE (by simp;omega);refine ac kO (av hp Z htk) aa ?_;refine⟨k+1,?_,kN (ai hs @uO.{0,0}) [(902,49)],?_⟩
   ·omega
   ·omega
  ·have:k=l.length:=xA;subst this;have hll:(l.map mirB).take l.length=l.map mirB:=uE xB
   try dsimp only
   rw[hll];refine aC _ (fo 902 4 _ rfl (fa _ rfl) xC) ?_;refine ac kP (av @qD.{0} htm @uC.{0,0}) (ae (dM [(2000,903),(2001,904)] L)) ?_;refine aq (λ(k:Nat)=>k<=V) (λ k=>[(1, .ptr 1 0 0 0),(4, .ref 900 1 0 V V),(10, .ref 903 1 0 V V),(12, .int (topN a b k)),(62, .int V),(63, .int k)]) (λ k=>[(1, .cells [.int V, .d (cX l)]),(900, .row 1 (intsL a)),(903, .row 1 (intsL b))]) (λ k=>V-k) 0 ?_ ?_ ?_
   ·exact uF _
   ·exact kN aa []
   ·intro k hk;rcases uD k V with F|hge2
    ·have ga:=aK (r:=a) (i:=k) xA;have gb:=aK (r:=b) (i:=k) xA;refine ac kO (aQ ga gb Y O @lR) aa ?_;refine⟨k+1,?_,kN (ae @topN.eq_1) [],?_⟩
     ·omega
     ·omega
    ·refine ac kP aa aa ?_;have:k=V:=xA;subst this;have U:=u0 K J k;have H:=λ j (h:j<k)=>zr (a:=a) (b:=b) h
     have z:topN a b a.length=topN a b k:=by rw[Y]
     generalize topN a b k=t at U H z|-;refine aq (λ(u:Nat)=>u<=k) (λ u=>[(4, .ref 900 1 0 k k),(10, .ref 903 1 0 k k),(12, .int t),(14, .ref 79 1 0 k k),(15, .int (cn (halfAt a b t) u)),(81, .int k),(82, .int u)]) (λ u=>[(900, .row 1 (intsL a)),(903, .row 1 (intsL b)),(79, .row 1 ((cb (halfAt a b t) k u).map D.int))]) (λ u=>k-u) 0 ?_ ?_ ?_
     ·exact uF _
     ·exact kN (ae @oy) []
     ·intro u hu;have G:=w5 xA (λ v=>pJ (v:=v) K J U) u;rcases uD u k with M|hug
      ·have ga:=aK (r:=a) (i:=u) xA;have gb:=aK (r:=b) (i:=u) xA;have g1:=K u;have g2:=J u;have g3:=H u M;have hh:=pJ (v:=u) K J U;have S:(at0 a u+t-at0 b u)/2=halfAt a b t u:=rfl;have Z:=fV (halfAt a b t) k u;have T:=ox (g:=halfAt a b t) M;have I:((cb (halfAt a b t) k u).set u (halfAt a b t u))[u]? =some (halfAt a b t u):=jC xA;have Q:((List.map D.int (cb (halfAt a b t) k u)).set u (D.sc (.int .i64 (halfAt a b t u))))[u]? =some (D.sc (.int .i64 (halfAt a b t u))):=jC (by rw[uC];omega);have gf:(cb (halfAt a b t) k u)[u]? =_:=k7 M;rcases gJ (u=0\/halfAt a b t u<cn (halfAt a b t) u)with c|c
       ·have N:cn (halfAt a b t) (u+1)=halfAt a b t u:=by rw[cn,if_pos c]
        refine kw kO (bj ga gb Y O Z gf HN (aE S I Q @yJ.{0})) aa ?_
        repeat' first|exact True.intro|refine Bn.mk ?_ ?_|intro hc
        all_goals
         refine⟨u+1,?_,kN (av @T.symm N @yW.{0,0}) [],?_⟩
         ·omega
         ·omega
       ·have N:cn (halfAt a b t) (u+1)=cn (halfAt a b t) u:=by rw[cn,if_neg c]
        refine ac kO (bj ga gb Y O Z gf HN (aE S I Q @yJ.{0})) aa ?_
        all_goals
         refine⟨u+1,?_,kN (av @T.symm N @yW.{0,0}) [],?_⟩
         ·omega
         ·omega
      ·refine ac kP aa aa ?_;have:u=k:=xA;subst this;have A:cb (halfAt a b t) u u=ii (halfAt a b t) (λ v=>halfAt a b t v-cn (halfAt a b t) u) u 0:=by
        rw[ov,IE];rfl
       have q:cn (halfAt a b t) a.length=cn (halfAt a b t) u:=by rw[Y]
       rw[A];generalize cn (halfAt a b t) u=w at G q|-;refine aq (λ(v:Nat)=>v<=u) (λ v=>[(14, .ref 79 1 0 u u),(15, .int w),(116, .int u),(117, .int v)]) (λ v=>[(79, .row 1 ((ii (halfAt a b t) (λ v=>halfAt a b t v-w) u v).map D.int))]) (λ v=>u-v) 0 ?_ ?_ ?_
       ·exact uF _
       ·exact kN aa []
       ·intro v hv;have Z:=sE (halfAt a b t) (λ v=>halfAt a b t v-w) u v;rcases uD v u with s|hvg
        ·have hg:(ii (halfAt a b t) (λ v=>halfAt a b t v-w) u v)[v]? =some (halfAt a b t v):=by rw[u3 s,if_neg xA]
         have T:=IC (h:=halfAt a b t) (g:=λ v=>halfAt a b t v-w) s;have hh:=pJ (v:=v) K J U;refine ac kO (ai hg Z) aa ?_;refine⟨v+1,?_,kN (ai @T.symm @yW.{0,0}) [],?_⟩
         ·omega
         ·omega
        ·refine ac kP aa aa ?_;have:v=u:=xA;subst this;have e:midF a b=cz (λ x=>halfAt a b t x-w) v:=by simp only[midF,cz,z,q];rw[Y]
         refine kR aa [(2000,79)] [(2, .ref 2000 1 0 _ _),(3, .int 0)] [(2000, .row 1 _)] ?_;refine aV ?_;exact⟨⟨_,rfl,rfl,rfl,trivial⟩,uM.2 ⟨yo (by rw[IB,e]),yB _⟩⟩
theorem solve_of (n:Nat)(l:List Bd)(R:Nat)(a f:List Int)(T:nOk (n,l)=true)(V:(eP n (aS l (zeros l)) (fB n)).isSome=true)
  (U:mi n l R (zeros l) (dz l n l.length)=some f)(X:f.length=l.length)(Z:(eP n (aS l f) (fB n)).map jh=some a)(Y:a.length=n):SolveOk (n,l) a f:=by
 obtain⟨W0,V⟩:=Option.isSome_iff_exists.1 V;cases h:eP n (aS l f) (fB n)with
 |none=>rw[h]at Z;cases Z
 |some W=>
  rw[h]at Z;simp only[qB,yM]at Z;subst Z;exact⟨n,rfl,Y,X,qw n l f R W0 W T V U X h (by simpa[jh]using Y)⟩
theorem fromTo_of {l:List Int}(h:(l.all λ x=>decide (0<=x/\x<=1099511627776))=true):fromTo l 1099511627776:=by
 intro v;rw[at0];cases Z:l[((v:Nat):Int).toNat]? with
 |none=>simp
 |some x=>
  simp only[yF,uG]at h;exact h x (uA Z)
end Go.Proofs.YtjjbhjnpeenbkaaGreatDoor.Sx
