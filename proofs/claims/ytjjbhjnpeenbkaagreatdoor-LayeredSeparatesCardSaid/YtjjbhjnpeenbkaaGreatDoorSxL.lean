/- The longest ways, walked. -/
import Derived.Test.YtjjbhjnpeenbkaaGreatDoorSxA
set_option linter.unusedSimpArgs false
set_option linter.unusedVariables false
set_option maxHeartbeats 16000000
namespace Go.Proofs.YtjjbhjnpeenbkaaGreatDoor.Sx
open Go Go.PS Go.Proofs
set_option maxRecDepth 100000
attribute [local irreducible] Zad wpG Zaa Zag
theorem ZCA {v:Int}{σ:LS}{s:Stp}(h:¬(wAt σ.1 s.1).1<(wAt σ.1 v).1+s.2.1):Zbi v σ s=σ:=by rw[Zbi,if_neg h]
theorem ZCD {v:Int}{σ:LS}{s:Stp}(h:(wAt σ.1 s.1).1<(wAt σ.1 v).1+s.2.1)(hb:bAt σ.2.1 s.1=true):
  Zbi v σ s=(σ.1.set s.1.toNat ((wAt σ.1 v).1+s.2.1,v,s,false),σ.2.1,σ.2.2):=by rw[Zbi,if_pos h,if_pos hb]
theorem ZCz {v:Int}{σ:LS}{s:Stp}(h:(wAt σ.1 s.1).1<(wAt σ.1 v).1+s.2.1)(hb:bAt σ.2.1 s.1=false):
  Zbi v σ s=(σ.1.set s.1.toNat ((wAt σ.1 v).1+s.2.1,v,s,false),σ.2.1.set s.1.toNat true,σ.2.2++[s.1]):=by
 rw[Zbi,if_pos h,if_neg (by rw[hb];exact kA)]
abbrev Zeq (W:List Way):List D:=W.map Zms
abbrev Zm4 (B:List Bool):List D:=B.map D.bool
abbrev intsL (l:List Int):List D:=l.map D.int
def Zfc (n k:Nat):List Way:=(List.range n).map λ u=>if u<k then Zep else Zju
theorem Zkh (n k:Nat):(Zfc n k).length=n:=by simp[Zfc]
theorem ZlS {n k u:Nat}(h:u<n):(Zfc n k)[u]? =some (if u<k then Zep else Zju):=by simp[Zfc,h]
theorem ZAO (n:Nat):Zeq (Zfc n 0)=List.replicate n (Zms Zju):=by
 rw[zP];refine⟨by simp[Zfc],λ b hb=>?_⟩;simp only[Zfc,gR,uP,Zeq]at hb;obtain⟨u,_,rfl⟩:=hb;simp
theorem ZAN {n k:Nat}(h:k<n):(Zfc n k).set k Zep=Zfc n (k+1):=by
 refine qA λ u=>?_
 by_cases hu:u<n
 ·rw[ZlS hu,qL,ZlS hu,Zkh];by_cases c:k=u
  ·subst c;rw[if_pos rfl,if_pos h,if_pos (by omega)]
  ·rw[if_neg c];by_cases c2:u<k
   ·rw[if_pos c2,if_pos (by omega)]
   ·rw[if_neg c2,if_neg (by omega)]
 ·rw[uN (by rw[yP,Zkh];omega),uN (by rw[Zkh];omega)]
theorem ZAM (n:Nat)(st:List Int):Zfc n n=Zen n st 0:=by
 refine qA λ u=>?_
 by_cases hu:u<n
 ·rw[ZlS hu,if_pos hu];simp[Zen,hu]
 ·rw[uN (by rw[Zkh];omega),uN (by rw[Zjm];omega)]
def Zaz (l:List Bd)(f:List Int)(v:Nat):List Stp:=Zfi l f v l.length
theorem ZEF {n:Nat}{l:List Bd}{f:List Int}
  (hb:∀(k:Nat) b,l[k]? =some b->0<=b.1/\b.1<n/\0<=b.2.1/\b.2.1<n/\b.1≠b.2.1/\-16777216<=b.2.2.1/\b.2.2.1<=16777216)(v:Nat):ZhK n v (Zaz l f v):=by
 have key:∀k,ZhK n v (Zfi l f v k):=by
  intro k
  induction k with
  |zero=>intro s hs;simp[Zfi,Za2]at hs
  |succ k ih=>
   intro s hs;simp only[Zfi,Za2]at hs;rcases yK.1 hs with hs|hs
   ·exact ih s hs
   ·rw[Zip]at hs;split at hs
    ·rename_i b hbk;have:=hb k b hbk;rcases yK.1 hs with hs|hs
     ·split at hs
      ·rw[uS.1 hs];dsimp only;omega
      ·simp at hs
     ·split at hs
      ·rw[uS.1 hs];dsimp only;omega
      ·simp at hs
    ·simp at hs
 exact key _
theorem ZAo (ST:Nat->List Stp)(σ:LS):ZbB ST σ 0=(σ.1,σ.2.1,[]):=rfl
theorem Zzo (L:List Stp)(v:Int)(σ:LS):Zbd L v σ 0=(σ.1,σ.2.1.set v.toNat false,σ.2.2):=rfl
theorem ZlI (n:Nat)(l:List Bd)(f:List Int)(st:List Int)(hn:n<=2048)(hl:l.length<=4096)(hfl:f.length=l.length)
  (hb:∀(k:Nat) b,l[k]? =some b->0<=b.1/\b.1<n/\0<=b.2.1/\b.2.1<n/\b.1≠b.2.1/\-16777216<=b.2.2.1/\b.2.2.1<=16777216)
  (hst:∀x∈st,0<=x/\x<(n:Int))(hsn:st.length<=n):
  (∀W,Zcj n (Zaz l f) st=some W->Zag Tryz.prog 160 [.d (pD n l f), .d (Zab st)] [(2000, .dead)] (.tup [.ref 2000 7 0 n n, .bool true]) [(2000, .row 7 (Zeq W))])/\
  (Zcj n (Zaz l f) st=none->Zag Tryz.prog 160 [.d (pD n l f), .d (Zab st)] [(2000, .dead)] (.tup [.nilS, .bool false]) [(2000, .dead)]):=by
 have hsteps:=ZEG n l f hn hl hfl hb;have hSL:∀v:Nat,v<n->ZhK n v (Zaz l f v):=λ v _=>ZEF hb v
 have hgood:=Zr4 hn (ZuV hst) hsn hSL;have main:∀(r:PV) (ob:Ob),(match Zcj n (Zaz l f) st with|some W=>r= .tup [.ref 2000 7 0 n n, .bool true]/\ob= .row 7 (Zeq W)|none=>r= .tup [.nilS, .bool false]/\ob= .dead)->
   Zag Tryz.prog 160 [.d (pD n l f), .d (Zab st)] [(2000, .dead)] r [(2000,ob)]:=by
  intro r ob hro;have hr1:r.only [2000] 4=true:=by
   revert hro;split<;>(rintro⟨rfl,rfl⟩;rfl)
  have hr2:ob.only [2000]=true:=by
   revert hro;split<;>(rintro⟨rfl,rfl⟩;rfl)
  refine ZqD Tryz.func160 rfl (by decide+kernel) (yA rfl) rfl (Zb0 rfl) hr1 (by simp[hr2]) rfl ?_;intro B X w0;refine kw1 kO kc0 (kc1 hsteps) ?_;refine Zaf (λ(k:Nat)=>k<=n) (λ k=>[(0, .d (pD n l f)),(1, .d (Zab st)),(6, .d (.sl (Zjn n l f))),(7, .ref 27 7 0 n n),(29, .int n),(30, .int k)]) (λ k=>[(27, .row 7 (Zeq (Zfc n k)))]) (λ k=>n-k) 0 ?_ ?_ ?_
  ·exact uH _
  ·exact kN (kc2 @ZAO @Zju.eq_1) []
  ·intro k hk;have hlen:=Zkh n k;rcases uE k n with hlt|hge
   ·have hg:(Zfc n k)[k]? =some Zju:=by rw[ZlS hlt,if_neg (by omega)]
    have hstp:=ZAN hlt;refine kw1 kO (kc3 hg hlen @Zju.eq_1) kc0 ?_;refine⟨k+1,?_,kN (kc3 @hstp.symm @yZ.{0,0} @Zep.eq_1) [],?_⟩
    ·omega
    ·omega
   ·refine kw1 kP kc0 kc0 ?_;have:k=n:=by omega
    subst this;rw[ZAM k st];refine Zaf (λ(j:Nat)=>j<=st.length) (λ j=>[(0, .d (pD k l f)),(1, .d (Zab st)),(6, .d (.sl (Zjn k l f))),(7, .ref 27 7 0 k k),(38, .d (Zab st)),(39, .int st.length),(40, .int j)]) (λ j=>[(27, .row 7 (Zeq (Zen k st j)))]) (λ j=>st.length-j) 0 ?_ ?_ ?_
    ·exact uH _
    ·exact kN kc0 []
    ·intro j hj;have hlen:=Zjm k st j;rcases uE j st.length with hlt|hge2
     ·obtain⟨x,hx⟩:=Zac hlt;have hxi:=hst x (uA hx);have hsu:=ZuU (n:=k) hx;obtain⟨v,rfl⟩:∃v:Nat,x=v:=⟨x.toNat,by omega⟩;have hg:(Zen k st j)[v]? =some (wAt (Zen k st j) v):=Zeo (v:=(v:Int)) hlen (by omega) (by omega);rw[uM]at hsu;refine kw1 kO (kc3 hx hg hlen) kc0 ?_;refine⟨j+1,?_,kN (kc3 hsu @yZ.{0,0} @ZdH.eq_1) [],?_⟩
      ·omega
      ·omega
     ·refine kw1 kP kc0 kc0 ?_;have:j=st.length:=by omega
      subst this;refine Zaf (λ(q:Nat)=>match q with|k'=>k'<=k+1/\Zb8 (λ i=>(ZaC (Zaz l f) (Zax k st) i).2.2.isEmpty) k'=none) (λ k'=>[(0, .d (pD k l f)),(6, .d (.sl (Zjn k l f))),(7, .ref 27 7 0 k k),(11, .d (Zab (ZaC (Zaz l f) (Zax k st) k').2.2)),(12, .ref 55 1 0 k k),(13, .int k')]) (λ k'=>[(27, .row 7 (Zeq (ZaC (Zaz l f) (Zax k st) k').1)),(55, .row 1 (Zm4 (ZaC (Zaz l f) (Zax k st) k').2.1))]) (λ k'=>k+1-k') 0 ?_ ?_ ?_
      ·exact⟨uH _,rfl⟩
      ·exact kN (kc3 @ZaC.eq_1 @Zax.eq_1 @kW.{0,0}) []
      ·rintro m ⟨hm,hfirst⟩;obtain⟨hG,hqn⟩:=hgood m hm;have hit:ZaC (Zaz l f) (Zax k st) (m+1)=ZbB (Zaz l f) (ZaC (Zaz l f) (Zax k st) m) (ZaC (Zaz l f) (Zax k st) m).2.2.length:=rfl;have hend:(ZaC (Zaz l f) (Zax k st) m).2.2.isEmpty=true->Zcj k (Zaz l f) st=some (ZaC (Zaz l f) (Zax k st) m).1:=λ h=>by
        rw[Zcj,ZiR,Zrq (by omega) hfirst h];rfl
       have hnx:(ZaC (Zaz l f) (Zax k st) m).2.2.isEmpty=false->Zb8 (λ i=>(ZaC (Zaz l f) (Zax k st) i).2.2.isEmpty) (m+1)=none:=λ h=>Zrr hfirst h
       try dsimp only
       generalize ZaC (Zaz l f) (Zax k st) m=σ at hG hqn hit hend hnx|-;have hq40:k*(m+1)<=2048*2050:=kZ hn (by omega);rcases hem:σ.2.2.isEmpty with _|_
       ·have hpos:0<σ.2.2.length:=by
         rcases qM σ.2.2.length with h|h
         ·rw[jN.1 h]at hem;cases hem
         ·exact h
        rcases uE k m with hbig|hsmall
        ·have e:Zcj k (Zaz l f) st=none:=by
          have:m+1=k+2:=by omega
          have h2:=hnx hem;rw[this]at h2;rw[Zcj,ZiR,h2];rfl
         rw[e]at hro;obtain⟨rfl,rfl⟩:=hro;refine kw1 kP kc0 kc0 ?_;refine kR kc0 [(2000,900)] [(4, .nilS),(5, .bool false)] [(2000, .dead)] ?_;refine Za7 ?_;exact⟨⟨_,rfl,rfl,rfl,trivial⟩,uK.2 ⟨rfl,uW _⟩⟩
        ·refine kw1 kP kc0 kc0 ?_;refine Zao _ (Zcy 14 900 1 rfl rfl) ?_;refine Zaf (λ(j:Nat)=>j<=σ.2.2.length) (λ j=>[(0, .d (pD k l f)),(6, .d (.sl (Zjn k l f))),(7, .ref 27 7 0 k k),(12, .ref 55 1 0 k k),(13, .int ((m:Int)+1)),(14, .ref 900 1 0 (ZbB (Zaz l f) σ j).2.2.length (ZbB (Zaz l f) σ j).2.2.length),(68, .d (Zab σ.2.2)),(69, .int σ.2.2.length),(70, .int j)]) (λ j=>[(27, .row 7 (Zeq (ZbB (Zaz l f) σ j).1)),(55, .row 1 (Zm4 (ZbB (Zaz l f) σ j).2.1)),(900, .row 1 (intsL (ZbB (Zaz l f) σ j).2.2))]) (λ j=>σ.2.2.length-j) 0 ?_ ?_ ?_
         ·exact uH _
         ·exact kN (kc1 @ZAo) []
         ·intro j hj;rcases uE j σ.2.2.length with hjl|hjg
          ·obtain⟨x,hx⟩:=Zac hjl;have hxi:=hG.2.2.1 x (uA hx);obtain⟨v,rfl⟩:∃v:Nat,x=v:=⟨x.toNat,by omega⟩;have hmg:=Zn6 hG hSL j (by omega);have hin:=ZrS hmg (v:=(v:Int)) (L:=Zaz l f v) (by omega) (by omega) (hSL v (by omega));have hms:=Zkc (ST:=Zaz l f) hx;rw[uM]at hms;have hcnt:∀τ:LS,ZeV k (70437463654400*m+16777216*j+16777216) (j+1) τ->τ.2.2.length<=4300000:=λ τ h=>by
            have h1:=h.2.2.2.2;have h2:τ.2.1.count true<=k:=by rw[<-h.2.1];exact List.count_le_length
            omega
           try dsimp only
           generalize ZbB (Zaz l f) σ j=μ at hmg hin hms|-;have hs:=Zmk l f v l.length;have hsl:(ZdG l f l.length v)=(Zaz l f v).map stD:=rfl;have hsr:(List.map (λ v=>D.sl (ZdG l f l.length v)) (List.range k))[v]? =some (.sl ((Zaz l f v).map stD)):=by simp[show v<k by omega];rfl
           rw[hsl,uC]at hs;have gb:μ.2.1[v]? =some (bAt μ.2.1 v):=ZmT (v:=(v:Int)) hmg.2.1 (by omega) (by omega);have l1:=hmg.1;have l2:=hmg.2.1;refine kw1 kO (kc6 hx gb l1 l2 hsr @zU) kc0 ?_;refine Zaf (λ(i:Nat)=>i<=(Zaz l f v).length) (λ i=>[(0, .d (pD k l f)),(6, .d (.sl (Zjn k l f))),(7, .ref 27 7 0 k k),(12, .ref 55 1 0 k k),(13, .int ((m:Int)+1)),(14, .ref 900 1 0 (Zbd (Zaz l f v) v μ i).2.2.length (Zbd (Zaz l f v) v μ i).2.2.length),(16, .int v),(68, .d (Zab σ.2.2)),(69, .int σ.2.2.length),(70, .int j),(80, .d (.sl ((Zaz l f v).map stD))),(81, .int (Zaz l f v).length),(82, .int i)]) (λ i=>[(27, .row 7 (Zeq (Zbd (Zaz l f v) v μ i).1)),(55, .row 1 (Zm4 (Zbd (Zaz l f v) v μ i).2.1)),(900, .row 1 (intsL (Zbd (Zaz l f v) v μ i).2.2))]) (λ i=>(Zaz l f v).length-i) 0 ?_ ?_ ?_
           ·exact uH _
           ·exact kN (kc3 @Zzo @yZ.{0,0} @uM) []
           ·intro i hi;rcases uE i (Zaz l f v).length with hil|hig
            ·obtain⟨s,hs2⟩:=Zac hil;obtain⟨hgi,hvi⟩:=hin i;have hsi:=hSL v (by omega) s (uA hs2);have hns:=ZjZ (v:=(v:Int)) (σ:=μ) hs2;have hlq:=hcnt _ hgi
             try dsimp only
             generalize Zbd (Zaz l f v) v μ i=τ at hgi hvi hns hlq|-;obtain⟨W,Bs,q⟩:=τ;obtain⟨to,len,bd,bk⟩:=s;obtain⟨u,rfl⟩:∃u:Nat,to=u:=⟨to.toNat,by have:=hsi.1;dsimp only at this;omega⟩;dsimp only at hsi hvi hlq hns;have g1:W.length=k:=hgi.1;have g2:Bs.length=k:=hgi.2.1;have gv:W[v]? =some (wAt W v):=Zeo (v:=(v:Int)) g1 (by omega) (by omega);have gu:W[u]? =some (wAt W u):=Zeo (v:=(u:Int)) g1 (by omega) (by omega);have gbu:Bs[u]? =some (bAt Bs u):=ZmT (v:=(u:Int)) g2 (by omega) (by omega);have bv:=hgi.2.2.2.1 _ (uA gv);have bu:=hgi.2.2.2.1 _ (uA gu);have htk:(List.map D.int q).take q.length=List.map D.int q:=Zal _ _;rcases gZ ((wAt W u).1<(wAt W v).1+len)with hlt|hlt
             ·rcases hbu:bAt Bs u with _|_
              ·rw[ZCz hlt hbu]at hns;rw[hbu]at gbu;dsimp only at hns;rw[uM]at hns;refine kw1 kO (kc8 hs2 gv gu gbu g1 g2 htk @yP.{0}) kc0 ?_;refine⟨i+1,?_,kN (kc4 hns @yZ.{0,0} @uQ.{0,0} @uG.{0}) [(900,124)],?_⟩
               ·omega
               ·omega
              ·rw[ZCD hlt hbu]at hns;rw[hbu]at gbu;dsimp only at hns;rw[uM]at hns;refine kw1 kO (kc8 hs2 gv gu gbu g1 g2 htk @yP.{0}) kc0 ?_;refine⟨i+1,?_,kN (kc2 hns @yZ.{0,0}) [],?_⟩
               ·omega
               ·omega
             ·rw[ZCA hlt]at hns;refine kw1 kO (kc8 hs2 gv gu gbu g1 g2 htk @yP.{0}) kc0 ?_;refine⟨i+1,?_,kN (kc2 hns @yZ.{0,0}) [],?_⟩
              ·omega
              ·omega
            ·have:i=(Zaz l f v).length:=by omega
             subst this;refine kw1 kO kc0 kc0 ?_;refine⟨j+1,?_,kN (kc1 hms) [],?_⟩
             ·omega
             ·omega
          ·have:j=σ.2.2.length:=by omega
           subst this;have hmg:=Zn6 hG hSL σ.2.2.length (uJ _);rw[<-hit]at hmg;have hnx:=hnx hem
           try dsimp only
           rw[<-hit];generalize hnext:ZaC (Zaz l f) (Zax k st) (m+1)=τ at hmg|-;refine Zao _ (Zc5 900 1 _ rfl (ZcW _ rfl) (by decide)) ?_;refine kw1 kO (kc2 @qR.{0} @Zal) kc0 ?_;refine⟨m+1,?_,kN (kc5 @hnext @qR.{0} @Zal @qQ @gV) [],?_⟩
           ·exact⟨by omega,hnx⟩
           ·omega
       ·have e:=hend hem;have h0:σ.2.2.length=0:=by
         rw[Ah]at hem;rw[hem];rfl
        rw[e]at hro;obtain⟨rfl,rfl⟩:=hro;refine kw1 kP (kc1 h0) kc0 ?_;refine kR kc0 [(2000,27)] [(4, .ref 2000 7 0 _ _),(5, .bool true)] [(2000, .row 7 _)] ?_;refine Za7 ?_;exact⟨⟨_,rfl,rfl,rfl,trivial⟩,uK.2 ⟨rfl,uW _⟩⟩
 refine⟨λ W hW=>main _ _ (by rw[hW];exact⟨rfl,rfl⟩),λ hN=>main _ _ (by rw[hN];exact⟨rfl,rfl⟩)⟩
def Zat (W:List Way)(v:Int):Nat->Int
 |0=>v
 |k+1=>(wAt W (Zat W v k)).2.1
def ZaP (W:List Way)(v:Int)(k:Nat):Stp:=(wAt W (Zat W v k)).2.2.1
def Zdk (W:List Way)(f:List Int)(m0 v:Int):Nat->Int
 |0=>m0
 |k+1=>if(ZaP W v k).2.2.2 then min (Zdk W f m0 v k) (at0 f (ZaP W v k).2.2.1)else Zdk W f m0 v k
def ZbR (W:List Way)(f:List Int)(m v:Int):Nat->List Int
 |0=>f
 |k+1=>(ZbR W f m v k).set (ZaP W v k).2.2.1.toNat (at0 (ZbR W f m v k) (ZaP W v k).2.2.1+(if(ZaP W v k).2.2.2 then -m else m))
theorem Zfp (W:List Way)(v:Int)(k:Nat):Zat W v (k+1)=(wAt W (Zat W v k)).2.1:=rfl
theorem Zn9 (W:List Way)(f:List Int)(m0 v:Int)(k:Nat):Zdk W f m0 v (k+1)=if(ZaP W v k).2.2.2 then min (Zdk W f m0 v k) (at0 f (ZaP W v k).2.2.1)else Zdk W f m0 v k:=rfl
theorem ZoZ (W:List Way)(f:List Int)(m v:Int)(k:Nat):ZbR W f m v (k+1)=(ZbR W f m v k).set (ZaP W v k).2.2.1.toNat (at0 (ZbR W f m v k) (ZaP W v k).2.2.1+(if(ZaP W v k).2.2.2 then -m else m)):=rfl
def Zfh (W:List Way)(f nd:List Int)(t:Int)(K:Nat):Int:=min (Zdk W f (at0 nd t) t K) (-(at0 nd (Zat W t K)))
theorem ZoY (W:List Way)(f nd:List Int)(t:Int)(K:Nat):Zfh W f nd t K=min (Zdk W f (at0 nd t) t K) (-(at0 nd (Zat W t K))):=rfl
theorem Zin (W:List Way)(f:List Int)(m v:Int):∀k,(ZbR W f m v k).length=f.length
 |0=>rfl
 |k+1=>by simp[ZbR,Zin W f m v k]
theorem Zuv {W:List Way}{f:List Int}{m v F M:Int}(hf:Zcd f F)(hM:0<=M)(hm:-M<=m/\m<=M):∀k:Nat,Zcd (ZbR W f m v k) (F+M*k)
 |0=>by simpa[ZbR]using hf
 |k+1=>by
  have ih:=Zuv (W:=W) (v:=v) hf hM hm k;have h1:=ih (ZaP W v k).2.2.1;have e:F+M*((k+1:Nat):Int)=F+M*k+M:=by rw[qQ,gV,zW,Int.mul_one,zJ]
  rw[e,ZbR];refine Zpw (Zgg ih (by omega)) ?_ ?_<;>split<;>omega
theorem Zn8 {W:List Way}{f:List Int}{m0 v F:Int}(hf:Zcd f F)(hm:-F<=m0/\m0<=F):∀k:Nat,-F<=Zdk W f m0 v k/\Zdk W f m0 v k<=F
 |0=>by simpa[Zdk]using hm
 |k+1=>by
  have ih:=Zn8 (W:=W) (v:=v) hf hm k;have h1:=hf (ZaP W v k).2.2.1;rw[Zdk];split<;>omega
def ZmE (n m:Nat)(W:List Way):Prop:=W.length=n/\∀w∈W,0<=w.2.1/\w.2.1<(n:Int)/\0<=w.2.2.1.2.2.1/\w.2.2.1.2.2.1<(m:Int)
theorem ZmU {n m:Nat}{W:List Way}{v:Int}(hW:ZmE n m W)(h0:0<=v)(hv:v<n):∀k,0<=Zat W v k/\Zat W v k<n
 |0=>⟨h0,hv⟩
 |k+1=>by
  obtain⟨h1,h2⟩:=ZmU hW h0 hv k;have:=hW.2 _ (uA (Zeo hW.1 h1 h2));exact⟨this.1,this.2.1⟩
abbrev pM (n:Nat)(l:List Bd)(m:Nat):Ob:= .cells [.int n, .d (Zcn l), .ref 1001 1 0 m m]
theorem ZDE (n:Nat)(l:List Bd)(f:List Int)(W:List Way)(t:Int)(nd:List Int)(K:Nat)(hn:n<=2048)(hW:ZmE n f.length W)(hndl:nd.length=n)
  (ht:0<=t/\t<n)(hK:K<=n)(h1:∀j,j<K->(wAt W (Zat W t j)).2.2.2=false)(h2:(wAt W (Zat W t K)).2.2.2=true)(hf:Zcd f 1125899906842624)(hnd:Zcd nd 1125899906842624):
  Zag Tryz.prog 213 [.ptr 1000 0 0 0, .d (.sl (Zeq W)), .int t, .ref 1002 1 0 n n] [(1000,pM n l f.length),(1001, .row 1 (intsL f)),(1002, .row 1 (intsL nd))]
   (.tup [.int (Zat W t K), .int (Zfh W f nd t K)]) [(1000,pM n l f.length),(1001, .row 1 (intsL (ZbR W f (Zfh W f nd t K) t K))),(1002, .row 1 (intsL nd))]:=by
 have hbk:=ZmU hW ht.1 ht.2;have hms:=Zn8 (W:=W) (v:=t) (m0:=at0 nd t) hf (hnd t);have hst:∀k,∃b:Nat,(ZaP W t k).2.2.1=b/\b<f.length:=by
  intro k;have:=hW.2 _ (uA (Zeo hW.1 (hbk k).1 (hbk k).2));exact⟨(ZaP W t k).2.2.1.toNat,by rw[ZaP];omega,by rw[ZaP];omega⟩
 refine kM Tryz.func213 ?_;intro B X w0;obtain⟨t',rfl⟩:∃t':Nat,t=t':=⟨t.toNat,by omega⟩;have gnt:=ZaG (r:=nd) (i:=t') (by omega);have hWl:=hW.1;refine kw1 kO (kc2 gnt hndl) kc0 ?_;refine Zaf (λ(k:Nat)=>k<=K) (λ k=>[(0, .ptr 1000 0 0 0),(1, .d (.sl (Zeq W))),(2, .int t'),(3, .ref 1002 1 0 n n),(10, .int (Zat W t' k)),(11, .int (Zdk W f (at0 nd t') t' k)),(12, .int (Zat W t' k))]) (λ k=>[(1000,pM n l f.length),(1001, .row 1 (intsL f)),(1002, .row 1 (intsL nd))]) (λ k=>K-k) 0 ?_ ?_ ?_
 ·exact uH _
 ·exact kN (kc2 @Zat.eq_1 @Zdk.eq_1) []
 ·intro k hk;obtain⟨b,hb1,hb2⟩:=hst k;have gb:=ZaG hb2;have hbb:=hf b;have hmk:=hms k;have hmn:=Zn9 W f (at0 nd t') t' k;have hbn:=Zfp W t' k;obtain⟨hv1,hv2⟩:=hbk k;have hgb:(wAt W (Zat W t' k)).2.2.2=decide (k=K):=by
   rcases gZ (k=K)with h|h
   ·rw[h,h2];simp
   ·rw[h1 k (by omega),uV h]
  rw[hb1]at hmn;rw[ZaP]at hb1 hmn;obtain⟨v,hv⟩:∃v:Nat,Zat W t' k=v:=⟨(Zat W t' k).toNat,by omega⟩;rw[hv]at hv1 hv2 hbn hgb hmn hb1;have gv:W[v]? =some (wAt W v):=Zeo (v:=(v:Int)) hWl hv1 hv2;rcases uE k K with hlt|hge
  ·rw[uV (show k≠K by omega)]at hgb;generalize hw:wAt W v=w at gv hbn hgb hmn hb1;obtain⟨lg,fr,⟨s1,s2,s3,s4⟩,bg⟩:=w;dsimp only at hbn hgb hmn hb1;subst hgb;cases s4 with
   |false=>
    rw[if_neg (by decide)]at hmn;refine kw1 kO (kc4 gv hv hWl hb1) kc0 ?_;refine⟨k+1,?_,kN (kc2 hbn hmn) [],?_⟩
    ·omega
    ·omega
   |true=>
    rw[if_pos rfl]at hmn;refine kw1 kO (kc6 gv hv hWl hb1 gb @ite_min) kc0 ?_;refine⟨k+1,?_,kN (kc2 hbn hmn) [],?_⟩
    ·omega
    ·omega
  ·have:k=K:=by omega
   subst this;rw[yD rfl]at hgb;have gnv:=ZaG (r:=nd) (i:=v) (by omega);have hnv:=hnd v;have hsm:=ZoY W f nd t' k;rw[hv]at hsm;have hsent:=Zuv (W:=W) (v:=(t':Int)) (m:=Zfh W f nd t' k) (M:=1125899906842624) hf (by omega) (by omega);have hfr:Zat W t' k=v:=hv;refine kw1 kP (kc7 gv hv hWl hgb gnv hndl @ite_min) kc0 ?_;rw[<-hsm];generalize Zfh W f nd t' k=m at hsm hsent|-;refine Zaf (λ(j:Nat)=>j<=k) (λ j=>[(0, .ptr 1000 0 0 0),(1, .d (.sl (Zeq W))),(10, .int v),(11, .int m),(14, .int (Zat W t' j))]) (λ j=>[(1000,pM n l f.length),(1001, .row 1 (intsL (ZbR W f m t' j))),(1002, .row 1 (intsL nd))]) (λ j=>k-j) 0 ?_ ?_ ?_
   ·exact uH _
   ·exact kN (kc2 @Zat.eq_1 @ZbR.eq_1) []
   ·intro j hj;obtain⟨b,hb1,hb2⟩:=hst j;have hsl:=Zin W f m t' j;have gb:=ZaG (r:=ZbR W f m t' j) (i:=b) (by omega);have hbb:=hsent j b;have hmn:=ZoZ W f m t' j;have hbn:=Zfp W t' j;obtain⟨hv1,hv2⟩:=hbk j;have hgj:(wAt W (Zat W t' j)).2.2.2=decide (j=k):=by
     rcases gZ (j=k)with h|h
     ·rw[h,h2];simp
     ·rw[h1 j (by omega),uV h]
    rw[hb1,uM]at hmn;rw[ZaP]at hb1 hmn;obtain⟨u,hu⟩:∃u:Nat,Zat W t' j=u:=⟨(Zat W t' j).toNat,by omega⟩;rw[hu]at hv1 hv2 hbn hgj hmn hb1;have gu:W[u]? =some (wAt W u):=Zeo (v:=(u:Int)) hWl hv1 hv2;rcases uE j k with hlt|hge2
    ·rw[uV (show j≠k by omega)]at hgj;generalize hw:wAt W u=w at gu hbn hgj hmn hb1;obtain⟨lg,fr,⟨s1,s2,s3,s4⟩,bg⟩:=w;dsimp only at hbn hgj hmn hb1;subst hgj;cases s4 with
     |false=>
      rw[if_neg (by decide)]at hmn;refine kw1 kO (kc6 gu hu hWl hb1 gb hsl) kc0 ?_;refine⟨j+1,?_,kN (kc3 hbn hmn @yZ.{0,0}) [],?_⟩
      ·omega
      ·omega
     |true=>
      rw[if_pos rfl]at hmn;refine kw1 kO (kc6 gu hu hWl hb1 gb hsl) kc0 ?_;refine⟨j+1,?_,kN (kc4 hbn hmn @yZ.{0,0} @Int.sub_eq_add_neg) [],?_⟩
      ·omega
      ·omega
    ·have:j=k:=by omega
     subst this;rw[yD rfl]at hgj;refine kw1 kP (kc4 gu hu hWl hgj) kc0 ?_;refine Za7 ?_;exact⟨⟨_,rfl,rfl,rfl,trivial⟩,uK.2 ⟨rfl,uK.2 ⟨rfl,uK.2 ⟨rfl,uW _⟩⟩⟩⟩
def Zha (nd:List Int)(v:Nat):List Int:=if at0 nd v<0 then[(v:Int)]else[]
def ZbZ (nd:List Int)(k:Nat):List Int:=Za2 (Zha nd) k
def ZaS (W:List Way)(nd:List Int):Nat->Int
 |0=>-1
 |k+1=>if 0<at0 nd k/\-576460752303423488<(wAt W k).1/\(ZaS W nd k<0\/(wAt W (ZaS W nd k)).1<(wAt W k).1)then k else ZaS W nd k
def Zo8 (W:List Way)(t:Int)(m:Nat):Option Nat:=Zb8 (λ k=>(wAt W (Zat W t k)).2.2.2) m
def Zit (n m:Nat)(W:List Way):Bool:=decide (W.length=n)&&W.all λ w=>decide (0<=w.2.1/\w.2.1<(n:Int)/\0<=w.2.2.1.2.2.1/\w.2.2.1.2.2.1<(m:Int))
def inB (f:List Int):Bool:=f.all λ x=>decide (-1125899906842624<=x/\x<=1125899906842624)
def Zlj (n:Nat)(l:List Bd)(f nd:List Int):Option (List Int×List Int):=
 match Zcj n (Zaz l f) (ZbZ nd n)with
 |none=>none
 |some W=>match Zo8 W (ZaS W nd n) (n+1)with
  |none=>none
  |some K=>if(decide (0<=ZaS W nd n)&&Zit n l.length W&&inB f&&inB nd)=true then
   some (ZbR W f (Zfh W f nd (ZaS W nd n) K) (ZaS W nd n) K,
    (nd.set (Zat W (ZaS W nd n) K).toNat (at0 nd (Zat W (ZaS W nd n) K)+Zfh W f nd (ZaS W nd n) K)).set (ZaS W nd n).toNat
     (at0 (nd.set (Zat W (ZaS W nd n) K).toNat (at0 nd (Zat W (ZaS W nd n) K)+Zfh W f nd (ZaS W nd n) K)) (ZaS W nd n)-Zfh W f nd (ZaS W nd n) K))else none
def Zgl (n:Nat)(l:List Bd):Nat->List Int->List Int->Option (List Int)
 |0,_,_=>none
 |r+1,f,nd=>if(ZbZ nd n).isEmpty then some f else match Zlj n l f nd with
  |none=>none
  |some s=>Zgl n l r s.1 s.2
theorem Zlz {f:List Int}(h:inB f=true):Zcd f 1125899906842624:=by
 intro v;rw[at0];cases hx:f[v.toNat]? with
 |none=>simp
 |some x=>
  simp only[inB,uX,uF]at h;exact h x (uA hx)
theorem ZFD {n m:Nat}{W:List Way}(h:Zit n m W=true):ZmE n m W:=by
 simp only[Zit,uL,uF,uX]at h;exact h
theorem ZnC {p:Nat->Bool}:∀{m k:Nat},Zb8 p m=some k->k<m/\p k=true/\∀j,j<k->p j=false:=by
 intro m
 induction m with
 |zero=>intro k h;simp[Zb8]at h
 |succ m ih=>
  intro k h;rw[Zb8]at h;cases hm:Zb8 p m with
  |some j=>
   rw[hm]at h;simp only[yI]at h;subst h;obtain⟨h1,h2,h3⟩:=ih hm;exact⟨by omega,h2,h3⟩
  |none=>
   rw[hm]at h;have hno:∀j,j<m->p j=false:=by
    intro j hj;cases hp:p j with
    |false=>rfl
    |true=>
     exfalso;have key:∀m,j<m->Zb8 p m≠none:=by
      intro m
      induction m with
      |zero=>intro h;omega
      |succ m ih2=>
       intro hjm hn;rw[Zb8]at hn;cases hq:Zb8 p m with
       |some i=>rw[hq]at hn;simp at hn
       |none=>
        rw[hq]at hn;rcases uE j m with h|h
        ·exact ih2 h hq
        ·have:j=m:=by omega
         subst this;simp[hp]at hn
     exact key m hj hm
   by_cases hp:p m=true
   ·simp[hp]at h;subst h;exact⟨by omega,hp,hno⟩
   ·simp[hp]at h
theorem Zkf (nd:List Int):∀k,(∀x∈ZbZ nd k,0<=x/\x<(k:Int))/\(ZbZ nd k).length<=k
 |0=>by simp[ZbZ,Za2]
 |k+1=>by
  obtain⟨h1,h2⟩:=Zkf nd k;simp only[ZbZ,Za2]at h1 h2|-;refine⟨λ x hx=>?_,?_⟩
  ·rcases yK.1 hx with hx|hx
   ·have:=h1 x hx;omega
   ·rw[Zha]at hx;split at hx
    ·rw[uS.1 hx];omega
    ·simp at hx
  ·rw[uG,Zha];split<;>simp<;>omega
theorem ZlU (W:List Way)(nd:List Int):∀k,ZaS W nd k<(k:Int)/\-1<=ZaS W nd k
 |0=>by simp[ZaS]
 |k+1=>by
  have:=ZlU W nd k;rw[ZaS];split<;>omega
theorem Zxr (n:Nat)(l:List Bd)(f0 f1:List Int)(R:Nat)(hg:nOk (n,l)=true)(hfl:f0.length=l.length)(hc:Zgl n l R f0 (ZbP l n l.length)=some f1):
  Zag Tryz.prog 162 [.ptr 1000 0 0 0] [(1000,pM n l l.length),(1001, .row 1 (intsL f0))] (.tup []) [(1000,pM n l l.length),(1001, .row 1 (intsL f1))]:=by
 obtain⟨h1,h2,h3,h4⟩:=Zic hg;dsimp only at h1 h2 h3 h4;have hneed:=ZAA n l f0 hg;have hnl:=Zi7 l n l.length;generalize ZbP l n l.length=nd0 at hc hneed hnl;refine kM Tryz.func162 ?_;intro B X w0;have htk0:(f0.map D.int).take l.length=f0.map D.int:=by rw[<-hfl];exact Zal _ _
 refine kw1 kO (kc3 hfl htk0 @qR.{0}) (kc1 (kfc [(2000,14)] hneed)) ?_;refine Zaf (λ(q:Nat×List Int×List Int)=>match q with|⟨r,f,nd⟩=>Zgl n l r f nd=some f1/\f.length=l.length/\nd.length=n) (λ⟨r,f,nd⟩=>[(0, .ptr 1000 0 0 0),(2, .ref 14 1 0 n n)]) (λ⟨r,f,nd⟩=>[(1000,pM n l l.length),(1001, .row 1 (intsL f)),(14, .row 1 (intsL nd))]) (λ⟨r,f,nd⟩=>r) (R,f0,nd0) ?_ ?_ ?_
 ·exact⟨hc,hfl,hnl⟩
 ·exact kN kc0 []
 ·rintro⟨r,f,nd⟩ ⟨hcf,hfl,hnl⟩
  try dsimp only
  cases r with
  |zero=>rw[Zgl]at hcf;cases hcf
  |succ r=>
   rw[Zgl]at hcf;refine kw1 kO kc0 kc0 ?_;refine Zao _ (Zcy 3 900 1 rfl rfl) ?_;refine Zaf (λ(i:Nat)=>i<=n) (λ i=>[(0, .ptr 1000 0 0 0),(2, .ref 14 1 0 n n),(3, .ref 900 1 0 (ZbZ nd i).length (ZbZ nd i).length),(15, .ref 14 1 0 n n),(16, .int n),(17, .int i)]) (λ i=>[(1000,pM n l l.length),(1001, .row 1 (intsL f)),(14, .row 1 (intsL nd)),(900, .row 1 (intsL (ZbZ nd i)))]) (λ i=>n-i) 0 ?_ ?_ ?_
   ·exact uH _
   ·exact kN kc0 []
   ·intro i hi;rcases uE i n with hin|hin
    ·have gi:=ZaG (r:=nd) (i:=i) (by omega);have hns:ZbZ nd (i+1)=ZbZ nd i++Zha nd i:=rfl;have hnl2:=(Zkf nd i).2;rcases gZ (at0 nd i<0)with hneg|hneg
     ·rw[Zha,if_pos hneg]at hns;refine kw1 kO (kc3 gi hnl @Zal) kc0 ?_;refine⟨i+1,?_,kN (kc3 hns @uQ.{0,0} @uG.{0}) [(900,27)],?_⟩
      ·omega
      ·omega
     ·rw[Zha,if_neg hneg,yT]at hns;refine kw1 kO (kc3 gi hnl @Zal) kc0 ?_;refine⟨i+1,?_,kN (kc1 hns) [],?_⟩
      ·omega
      ·omega
    ·have:i=n:=by omega
     subst this;obtain⟨hs1,hs2⟩:=Zkf nd i;refine Zao _ (Zc5 900 1 _ rfl (ZcW _ rfl) (by decide)) ?_;rcases hem:(ZbZ nd i).isEmpty with _|_
     ·rw[hem]at hcf;rw[if_neg (by decide),Zlj]at hcf;have hpos:0<(ZbZ nd i).length:=by
       rcases qM (ZbZ nd i).length with h|h
       ·rw[jN.1 h]at hem;cases hem
       ·exact h
      have hlong:=(ZlI i l f (ZbZ nd i) (by omega) (by omega) hfl (λ k b hb=>by have:=h4 k b hb;omega) hs1 hs2).1;cases hW:Zcj i (Zaz l f) (ZbZ nd i)with
      |none=>rw[hW]at hcf;cases hcf
      |some W=>
       rw[hW]at hcf;have hlong:=hlong W hW;dsimp only at hcf;cases hK:Zo8 W (ZaS W nd i) (i+1)with
       |none=>rw[hK]at hcf;cases hcf
       |some K=>
        rw[hK]at hcf;dsimp only at hcf;by_cases hcond:(decide (0<=ZaS W nd i)&&Zit i l.length W&&inB f&&inB nd)=true
        ·rw[if_pos hcond]at hcf;dsimp only at hcf;simp only[uL,uF]at hcond;obtain⟨⟨⟨c1,c2⟩,c3⟩,c4⟩:=hcond;obtain⟨k1,k2,k3⟩:=ZnC hK;have hWI:=ZFD c2;have hpk:=ZlU W nd i;have hsend:=ZDE i l f W (ZaS W nd i) nd K (by omega) (hfl▸hWI) hnl ⟨c1,hpk.1⟩ (by omega) k3 k2 (Zlz c3) (Zlz c4);rw[hfl]at hsend;have hnw:=Zlz c4;have hmm:=Zn8 (W:=W) (v:=ZaS W nd i) (m0:=at0 nd (ZaS W nd i)) (Zlz c3) (hnw _) K;have hsl:=Zin W f (Zfh W f nd (ZaS W nd i) K) (ZaS W nd i) K;have hbk:=ZmU hWI c1 hpk.1 K;have hWl:=hWI.1;have htkf:(f.map D.int).take l.length=f.map D.int:=by rw[<-hfl];exact Zal _ _
         refine kw1 kO (kc5 hfl hnl htkf @Zal @qR.{0}) (kc1 (kfc [(2000,35)] hlong)) ?_;refine Zaf (λ(u:Nat)=>u<=i) (λ u=>[(0, .ptr 1000 0 0 0),(2, .ref 14 1 0 i i),(6, .ref 35 7 0 i i),(8, .int (ZaS W nd u)),(38, .ref 14 1 0 i i),(39, .int i),(40, .int u)]) (λ u=>[(1000,pM i l l.length),(1001, .row 1 (intsL f)),(14, .row 1 (intsL nd)),(35, .row 7 (Zeq W))]) (λ u=>i-u) 0 ?_ ?_ ?_
         ·exact uH _
         ·exact kN kc0 []
         ·intro u hu;rcases uE u i with hui|hui
          ·have gn:=ZaG (r:=nd) (i:=u) (by omega);have gw:W[u]? =some (wAt W u):=Zeo (v:=(u:Int)) hWl (by omega) (by omega);obtain⟨q1,q2⟩:=ZlU W nd u;have hps:ZaS W nd (u+1)=if 0<at0 nd u/\-576460752303423488<(wAt W u).1/\(ZaS W nd u<0\/(wAt W (ZaS W nd u)).1<(wAt W u).1)then(u:Int)else ZaS W nd u:=rfl
           generalize ZaS W nd u=p at q1 q2 hps|-;rcases Be p 0 with hp|hp
           ·rcases gZ (0<at0 nd u/\-576460752303423488<(wAt W u).1)with hq|hq
            ·rw[if_pos ⟨hq.1,hq.2, .inl hp⟩]at hps;refine kw1 kO (kc4 gn gw hWl hnl) kc0 ?_
             all_goals
              refine⟨u+1,?_,kN (kc1 hps) [],?_⟩
              ·omega
              ·omega
            ·rw[if_neg (by omega)]at hps;refine kw kO (kc4 gn gw hWl hnl) kc0 ?_
             repeat' first|exact True.intro|refine Bn.mk ?_ ?_|intro hc
             all_goals
              refine⟨u+1,?_,kN (kc1 hps) [],?_⟩
              ·omega
              ·omega
           ·obtain⟨p',rfl⟩:∃p':Nat,p=p':=⟨p.toNat,by omega⟩;have gp:W[p']? =some (wAt W p'):=Zeo (v:=(p':Int)) hWl (by omega) (by omega);rcases gZ (0<at0 nd u/\-576460752303423488<(wAt W u).1/\(wAt W p').1<(wAt W u).1)with hq|hq
            ·rw[if_pos ⟨hq.1,hq.2.1, .inr hq.2.2⟩]at hps;refine kw1 kO (kc5 gn gw gp hWl hnl) kc0 ?_
             all_goals
              refine⟨u+1,?_,kN (kc1 hps) [],?_⟩
              ·omega
              ·omega
            ·rw[if_neg (by omega)]at hps;refine kw kO (kc5 gn gw gp hWl hnl) kc0 ?_
             repeat' first|exact True.intro|refine Bn.mk ?_ ?_|intro hc
             all_goals
              refine⟨u+1,?_,kN (kc1 hps) [],?_⟩
              ·omega
              ·omega
          ·have:u=i:=by omega
           subst this;refine Zao _ (Zc5 35 7 _ rfl (ZcW _ rfl) (by decide)) ?_;have htkw:(W.map Zms).take u=W.map Zms:=by rw[<-hWl];exact Zal _ _
           have hsm:=ZoY W f nd (ZaS W nd u) K;obtain⟨p,hp⟩:∃p:Nat,ZaS W nd u=p:=⟨(ZaS W nd u).toNat,by omega⟩;obtain⟨s,hs⟩:∃s:Nat,Zat W (ZaS W nd u) K=s:=⟨(Zat W (ZaS W nd u) K).toNat,by omega⟩;rw[hs]at hsend hcf hbk hsm;rw[hp]at hsend hcf hpk hsm hmm;rw[uM,uM]at hcf;have gs:=ZaG (r:=nd) (i:=s) (by omega);have gp:=ZaG (r:=nd) (i:=p) (by omega);have ns:=hnw s;have np:=hnw p;generalize Zfh W f nd p K=m at hsend hcf hsm;have gq:((List.map D.int nd).set s (D.sc (.int .i64 (at0 nd s+m))))[p]? =some (D.int (at0 (nd.set s (at0 nd s+m)) p)):=by
            rw[<-yZ,uI,ZaG (by rw[yP];omega)];rfl
           have hq2:-2251799813685248<=at0 (nd.set s (at0 nd s+m)) p/\at0 (nd.set s (at0 nd s+m)) p<=2251799813685248:=by
            rw[ZhM _ _ _ _ (by omega)];split<;>omega
           refine kw1 kO (kc8 hp hfl hnl hWl htkw @qR.{0} gs (kc2 gq @yP.{0})) (kc1 (kmc [(1000,1000),(1001,1001),(1002,14)] hsend)) ?_;refine⟨(r,ZbR W f m p K,(nd.set s (at0 nd s+m)).set p (at0 (nd.set s (at0 nd s+m)) p-m)),?_,kN (kc1 @yZ.{0,0}) [],?_⟩
           ·exact⟨hcf,by rw[Zin,hfl],by rw[yP,yP,hnl]⟩
           ·show r<r+1;omega
        ·rw[if_neg hcond]at hcf;cases hcf
     ·rw[hem,if_pos rfl]at hcf;cases hcf;have h0:(ZbZ nd i).length=0:=by
       rw[Ah]at hem;rw[hem];rfl
      refine kw1 kP (kc1 h0) kc0 ?_;refine Za7 ?_;exact⟨⟨_,rfl,trivial⟩,uK.2 ⟨rfl,uK.2 ⟨rfl,uW _⟩⟩⟩
def zeros (l:List Bd):List Int:=List.replicate l.length 0
theorem ZkY (n:Nat):(∀x∈Zce n,0<=x/\x<(n:Int))/\(Zce n).length=n:=by
 refine⟨λ x hx=>?_,by simp[Zce]⟩;obtain⟨u,hu,rfl⟩:=uP.1 hx;have:=uZ.1 hu;omega
theorem Ztj (n:Nat)(l:List Bd):pD n l (zeros l)= .pt [.int n,Zcn l, .sl (List.replicate l.length (D.sc (.int .i64 0)))]:=by simp[pD,zeros]
theorem Zv7 (n:Nat)(l:List Bd)(hg:nOk (n,l)=true)(hno:Zcj n (Zaz l (zeros l)) (Zce n)=none):
  Zag Tryz.prog 96 [.d (nD (n,l))] [(2000, .dead),(2001, .dead)] (.tup [.nilS, .nilS, .int 9]) [(2000, .dead),(2001, .dead)]:=by
 have hv:Zaa Tryz.prog 159 [nD (n,l)] (.bool true):=hg▸Zgi (n,l);obtain⟨h1,h2,h3,h4⟩:=Zic hg;dsimp only at h1 h2 h3 h4;obtain⟨a1,a2⟩:=ZkY n;have hall:=ZmM n l (zeros l) (by omega);have hlong:=(ZlI n l (zeros l) (Zce n) (by omega) (by omega) (by simp[zeros]) (λ k b hb=>by have:=h4 k b hb;omega) a1 (by omega)).2 hno;have htk:(List.replicate l.length (D.sc (.int .i64 0))).take l.length=List.replicate l.length (D.sc (.int .i64 0)):=uD (by simp);have htk2:((Zce n).map D.int).take n=(Zce n).map D.int:=uD (by simp[a2]);rw[Ztj]at hall hlong;refine kM Tryz.func96 ?_;intro B X w0;refine kw1 kP (kc6 htk htk2 a2 @qR.{0} @kW.{0,0} @qW.{0}) (kc3 hv (kfc [(2000,25)] hall) (kfc [(2000,26)] hlong)) ?_;refine Za7 ?_;exact⟨⟨_,rfl,rfl,rfl,rfl,trivial⟩,uK.2 ⟨rfl,uK.2 ⟨rfl,uW _⟩⟩⟩
def Zf3 (W:List Way):List Int:=W.map (·.1)
theorem ZjA (n:Nat)(l:List Bd)(f:List Int)(R:Nat)(W0 W:List Way)(hg:nOk (n,l)=true)(h0:Zcj n (Zaz l (zeros l)) (Zce n)=some W0)
  (hc:Zgl n l R (zeros l) (ZbP l n l.length)=some f)(hfl:f.length=l.length)(hW:Zcj n (Zaz l f) (Zce n)=some W)(hWl:W.length=n):
  Zag Tryz.prog 96 [.d (nD (n,l))] [(2000, .dead),(2001, .dead)] (.tup [.ref 2000 1 0 n n, .ref 2001 1 0 l.length l.length, .int 0]) [(2000, .row 1 (intsL (Zf3 W))),(2001, .row 1 (intsL f))]:=by
 have hv:Zaa Tryz.prog 159 [nD (n,l)] (.bool true):=hg▸Zgi (n,l);obtain⟨h1,h2,h3,h4⟩:=Zic hg;dsimp only at h1 h2 h3 h4;obtain⟨a1,a2⟩:=ZkY n;have hall:=ZmM n l (zeros l) (by omega);have hall2:=ZmM n l f (by omega);have hlong:=(ZlI n l (zeros l) (Zce n) (by omega) (by omega) (by simp[zeros]) (λ k b hb=>by have:=h4 k b hb;omega) a1 (by omega)).1 W0 h0;have hlong2:=(ZlI n l f (Zce n) (by omega) (by omega) hfl (λ k b hb=>by have:=h4 k b hb;omega) a1 (by omega)).1 W hW;have hcert:=Zxr n l (zeros l) f R hg (by simp[zeros]) hc;have htk:(List.replicate l.length (D.sc (.int .i64 0))).take l.length=List.replicate l.length (D.sc (.int .i64 0)):=uD (by simp);have htk2:((Zce n).map D.int).take n=(Zce n).map D.int:=uD (by simp[a2]);have htk3:(f.map D.int).take l.length=f.map D.int:=uD (by simp[hfl]);have hz:intsL (zeros l)=List.replicate l.length (D.sc (.int .i64 0)):=by simp[zeros]
 rw[hz]at hcert;rw[Ztj]at hall hlong;refine kM Tryz.func96 ?_;intro B X w0;refine kw1 kP (kc8 htk htk2 htk3 a2 hfl @qR.{0} @kW.{0,0} @qW.{0}) (kc6 hv (kfc [(2000,25)] hall) (kfc [(2000,26)] hlong) (kmc [(1000,21),(1001,19)] hcert) (kfc [(2000,36)] hall2) (kfc [(2000,37)] hlong2)) ?_;refine Zaf (λ(k:Nat)=>k<=n) (λ k=>[(5, .ptr 21 0 0 0),(8, .ref 37 7 0 n n),(10, .ref 42 1 0 n n),(44, .int n),(45, .int k)]) (λ k=>[(21, .cells [.int n, .d (Zcn l), .ref 19 1 0 l.length l.length]),(19, .row 1 (intsL f)),(37, .row 7 (Zeq W)),(42, .row 1 ((Za9 (λ v=>(wAt W v).1) n k).map D.int))]) (λ k=>n-k) 0 ?_ ?_ ?_
 ·exact uH _
 ·exact kN (kc1 @Zh0) []
 ·intro k hk;have hlen:=ZdB (λ v=>(wAt W v).1) n k;rcases uE k n with hlt|hge
  ·have gw:W[k]? =some (wAt W k):=Zeo (v:=(k:Int)) hWl (by omega) (by omega);have hst:=ZhZ (g:=λ v=>(wAt W v).1) hlt;have gf:(Za9 (λ v=>(wAt W v).1) n k)[k]? =_:=Zft hlt;refine kw1 kO (kc4 gw gf hWl hlen) kc0 ?_;refine⟨k+1,?_,kN (kc2 @hst.symm @yZ.{0,0}) [],?_⟩
   ·omega
   ·omega
  ·refine kw1 kP kc0 kc0 ?_;have:k=n:=by omega
   subst this;have e:Za9 (λ v=>(wAt W v).1) k k=Zf3 W:=by
    rw[ZhY];refine qA λ u=>?_
    rw[Zf3,uI,uI];rcases uE u k with hu|hu
    ·have gw:W[u]? =some (wAt W u):=Zeo (v:=(u:Int)) hWl (by omega) (by omega);rw[gw,yR hu];rfl
    ·rw[uN (by simpa using hu),uN (by omega)];rfl
   refine kR kc0 [(2000,42),(2001,19)] [(2, .ref 2000 1 0 _ _),(3, .ref 2001 1 0 _ _),(4, .int 0)] [(2000, .row 1 _),(2001, .row 1 _)] ?_;refine Za7 ?_;exact⟨⟨_,rfl,rfl,rfl,rfl,trivial⟩,uK.2 ⟨ZoS (by rw[e]),uK.2 ⟨rfl,uW _⟩⟩⟩
def SolveOk (g:Net)(a f:List Int):Prop:=∃n:Nat,g.1=n/\a.length=n/\f.length=g.2.length/\
 Zag Tryz.prog 96 [.d (nD g)] [(2000, .dead),(2001, .dead)] (.tup [.ref 2000 1 0 n n, .ref 2001 1 0 g.2.length g.2.length, .int 0]) [(2000, .row 1 (intsL a)),(2001, .row 1 (intsL f))]
def SolveNo (g:Net)(e:Int):Prop:=Zag Tryz.prog 96 [.d (nD g)] [(2000, .dead),(2001, .dead)] (.tup [.nilS, .nilS, .int e]) [(2000, .dead),(2001, .dead)]
theorem Zmd (x:Int):x.fdiv (2^min 1 64)=x/2:=by
 have:(2:Int)^min 1 64=2:=by decide
 rw[this,Da _ (by decide)]
theorem Balanced_ok (g:Net)(a b f f2:List Int)(h:SolveOk g a f)(h2:SolveOk (mirF g) b f2)(hl:g.2.length<=1000000)(hn:a.length<=1000000)(ha:fromTo a 1099511627776)(hb:fromTo b 1099511627776):
  Zag Tryz.prog 58 [.d (nD g)] [(2000, .dead)] (.tup [.ref 2000 1 0 a.length a.length, .int 0]) [(2000, .row 1 (intsL (midF a b)))]:=by
 obtain⟨m,l⟩:=g;obtain⟨n,hmn,hal,hfl,h⟩:=h;obtain⟨n2,hmn2,hbl,hfl2,h2⟩:=h2;dsimp only at hmn hl hfl h;simp only[mirF]at hmn2 hfl2 h2;rw[uC]at hfl2 h2;obtain rfl:n2=n:=by omega
 subst hmn;rw[hal];have htm:(List.map bdD (l.map mirB)).take l.length=List.map bdD (l.map mirB):=uD (by simp);have hbd:Zcn (l.map mirB)= .sl (List.map bdD (l.map mirB)):=rfl;refine kM Tryz.func58 ?_;intro B X w0;refine kw1 kP kc0 (kc1 (kmc [(2000,900),(2001,901)] h)) ?_;refine Zao _ (Zch 7 1 902 4 rfl rfl rfl) ?_;refine Zaf (λ(k:Nat)=>k<=l.length) (λ k=>[(1, .ptr 1 0 0 0),(4, .ref 900 1 0 n2 n2),(7, .ptr 7 0 0 0),(31, .d (Zcn l)),(32, .int l.length),(33, .int k)]) (λ k=>[(1, .cells [.int n2, .d (Zcn l)]),(900, .row 1 (intsL a)),(7, .cells [.int n2, .ref 902 4 0 k k]),(902, .row 4 (((l.map mirB).take k).map bdD))]) (λ k=>l.length-k) 0 ?_ ?_ ?_
 ·exact uH _
 ·exact kN kc0 []
 ·intro k hk;rcases uE k l.length with hlt|hge
  ·obtain⟨p,hp⟩:=Zac hlt;have hm:(l.map mirB)[k]? =some (mirB p):=by rw[uI,hp];rfl
   have hs:=ZaA hm;have hlen:((l.map mirB).take k).length=k:=by rw[yJ,uC];omega
   have htk:(List.map bdD ((l.map mirB).take k)).take k=List.map bdD ((l.map mirB).take k):=uD (by simp;omega);refine kw1 kO (kc3 hp hlen htk) kc0 ?_;refine⟨k+1,?_,kN (kc2 hs @uQ.{0,0}) [(902,49)],?_⟩
   ·omega
   ·omega
  ·have:k=l.length:=by omega
   subst this;have hll:(l.map mirB).take l.length=l.map mirB:=uD (by simp)
   try dsimp only
   rw[hll];refine Zao _ (Zc5 902 4 _ rfl (ZcW _ rfl) (by decide)) ?_;refine kw1 kP (kc3 @qR.{0} htm @uC.{0,0}) (kc1 (kmc [(2000,903),(2001,904)] h2)) ?_;refine Zaf (λ(k:Nat)=>k<=n2) (λ k=>[(1, .ptr 1 0 0 0),(4, .ref 900 1 0 n2 n2),(10, .ref 903 1 0 n2 n2),(12, .int (topN a b k)),(62, .int n2),(63, .int k)]) (λ k=>[(1, .cells [.int n2, .d (Zcn l)]),(900, .row 1 (intsL a)),(903, .row 1 (intsL b))]) (λ k=>n2-k) 0 ?_ ?_ ?_
   ·exact uH _
   ·exact kN kc0 []
   ·intro k hk;rcases uE k n2 with hlt|hge2
    ·have ga:=ZaG (r:=a) (i:=k) (by omega);have gb:=ZaG (r:=b) (i:=k) (by omega);refine kw1 kO (kc5 ga gb hal hbl @ite_max) kc0 ?_;refine⟨k+1,?_,kN (kc1 @topN.eq_1) [],?_⟩
     ·omega
     ·omega
    ·refine kw1 kP kc0 kc0 ?_;have:k=n2:=by omega
     subst this;have htop:=Zpm ha hb k;have hgt:=λ j (h:j<k)=>Zvk (a:=a) (b:=b) h
     have htt:topN a b a.length=topN a b k:=by rw[hal]
     generalize topN a b k=t at htop hgt htt|-;refine Zaf (λ(u:Nat)=>u<=k) (λ u=>[(4, .ref 900 1 0 k k),(10, .ref 903 1 0 k k),(12, .int t),(14, .ref 79 1 0 k k),(15, .int (ZbA (halfAt a b t) u)),(81, .int k),(82, .int u)]) (λ u=>[(900, .row 1 (intsL a)),(903, .row 1 (intsL b)),(79, .row 1 ((Za9 (halfAt a b t) k u).map D.int))]) (λ u=>k-u) 0 ?_ ?_ ?_
     ·exact uH _
     ·exact kN (kc1 @Zh0) []
     ·intro u hu;have hlow:=Zsy (by omega) (λ v=>ZnK (v:=v) ha hb htop) u;rcases uE u k with huk|hug
      ·have ga:=ZaG (r:=a) (i:=u) (by omega);have gb:=ZaG (r:=b) (i:=u) (by omega);have g1:=ha u;have g2:=hb u;have g3:=hgt u huk;have hh:=ZnK (v:=u) ha hb htop;have hdef:(at0 a u+t-at0 b u)/2=halfAt a b t u:=rfl;have hlen:=ZdB (halfAt a b t) k u;have hst:=ZhZ (g:=halfAt a b t) huk;have hgk:((Za9 (halfAt a b t) k u).set u (halfAt a b t u))[u]? =some (halfAt a b t u):=gQ (by omega);have hgk2:((List.map D.int (Za9 (halfAt a b t) k u)).set u (D.sc (.int .i64 (halfAt a b t u))))[u]? =some (D.sc (.int .i64 (halfAt a b t u))):=gQ (by rw[uC];omega);have gf:(Za9 (halfAt a b t) k u)[u]? =_:=Zft huk;rcases gZ (u=0\/halfAt a b t u<ZbA (halfAt a b t) u)with c|c
       ·have hlo:ZbA (halfAt a b t) (u+1)=halfAt a b t u:=by rw[ZbA,if_pos c]
        refine kw kO (kc8 ga gb hal hbl hlen gf Zmd (kc4 hdef hgk hgk2 @yP.{0})) kc0 ?_
        repeat' first|exact True.intro|refine Bn.mk ?_ ?_|intro hc
        all_goals
         refine⟨u+1,?_,kN (kc3 @hst.symm hlo @yZ.{0,0}) [],?_⟩
         ·omega
         ·omega
       ·have hlo:ZbA (halfAt a b t) (u+1)=ZbA (halfAt a b t) u:=by rw[ZbA,if_neg c]
        refine kw1 kO (kc8 ga gb hal hbl hlen gf Zmd (kc4 hdef hgk hgk2 @yP.{0})) kc0 ?_
        all_goals
         refine⟨u+1,?_,kN (kc3 @hst.symm hlo @yZ.{0,0}) [],?_⟩
         ·omega
         ·omega
      ·refine kw1 kP kc0 kc0 ?_;have:u=k:=by omega
       subst this;have hrow:Za9 (halfAt a b t) u u=ZeR (halfAt a b t) (λ v=>halfAt a b t v-ZbA (halfAt a b t) u) u 0:=by
        rw[ZhY,ZE6];rfl
       have hwl:ZbA (halfAt a b t) a.length=ZbA (halfAt a b t) u:=by rw[hal]
       rw[hrow];generalize ZbA (halfAt a b t) u=w at hlow hwl|-;refine Zaf (λ(v:Nat)=>v<=u) (λ v=>[(14, .ref 79 1 0 u u),(15, .int w),(116, .int u),(117, .int v)]) (λ v=>[(79, .row 1 ((ZeR (halfAt a b t) (λ v=>halfAt a b t v-w) u v).map D.int))]) (λ v=>u-v) 0 ?_ ?_ ?_
       ·exact uH _
       ·exact kN kc0 []
       ·intro v hv;have hlen:=Zmq (halfAt a b t) (λ v=>halfAt a b t v-w) u v;rcases uE v u with hvu|hvg
        ·have hg:(ZeR (halfAt a b t) (λ v=>halfAt a b t v-w) u v)[v]? =some (halfAt a b t v):=by rw[Zpp hvu,if_neg (by omega)]
         have hst:=ZE5 (h:=halfAt a b t) (g:=λ v=>halfAt a b t v-w) hvu;have hh:=ZnK (v:=v) ha hb htop;refine kw1 kO (kc2 hg hlen) kc0 ?_;refine⟨v+1,?_,kN (kc2 @hst.symm @yZ.{0,0}) [],?_⟩
         ·omega
         ·omega
        ·refine kw1 kP kc0 kc0 ?_;have:v=u:=by omega
         subst this;have e:midF a b=Zb1 (λ x=>halfAt a b t x-w) v:=by simp only[midF,Zb1,htt,hwl];rw[hal]
         refine kR kc0 [(2000,79)] [(2, .ref 2000 1 0 _ _),(3, .int 0)] [(2000, .row 1 _)] ?_;refine Za7 ?_;exact⟨⟨_,rfl,rfl,rfl,trivial⟩,uK.2 ⟨ZoS (by rw[ZE4,e]),uW _⟩⟩
theorem solve_of (n:Nat)(l:List Bd)(R:Nat)(a f:List Int)(hg:nOk (n,l)=true)(h0:(Zcj n (Zaz l (zeros l)) (Zce n)).isSome=true)
  (hc:Zgl n l R (zeros l) (ZbP l n l.length)=some f)(hfl:f.length=l.length)(hW:(Zcj n (Zaz l f) (Zce n)).map Zf3=some a)(hal:a.length=n):SolveOk (n,l) a f:=by
 obtain⟨W0,h0⟩:=Option.isSome_iff_exists.1 h0;cases h:Zcj n (Zaz l f) (Zce n)with
 |none=>rw[h]at hW;cases hW
 |some W=>
  rw[h]at hW;simp only[qB,yI]at hW;subst hW;exact⟨n,rfl,hal,hfl,ZjA n l f R W0 W hg h0 hc hfl h (by simpa[Zf3]using hal)⟩
theorem fromTo_of {l:List Int}(h:(l.all λ x=>decide (0<=x/\x<=1099511627776))=true):fromTo l 1099511627776:=by
 intro v;rw[at0];cases hx:l[((v:Nat):Int).toNat]? with
 |none=>simp
 |some x=>
  simp only[uX,uF]at h;exact h x (uA hx)
end Go.Proofs.YtjjbhjnpeenbkaaGreatDoor.Sx
