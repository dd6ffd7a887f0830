/- No two nodes overlap, and arcs lead downward. -/
import Derived.Test.YtjjbhjnpeenbkaaGreatDoorLyL
import Derived.Test.YtjjbhjnpeenbkaaGreatDoorLnA
set_option linter.unusedSimpArgs false
set_option linter.unusedVariables false
set_option maxHeartbeats 16000000
namespace Go.Proofs.YtjjbhjnpeenbkaaGreatDoor.Gr
open Go Go.PS Go.Proofs Go.Proofs.YtjjbhjnpeenbkaaGreatDoor Go.Proofs.YtjjbhjnpeenbkaaGreatDoor.Al
open Go.Cy (NA InN Zbk Za5)
set_option maxRecDepth 100000
attribute [local irreducible] Zad wpG Zaa Zag
theorem ZBn {b c:Bx}(hb:okB b=true)(hc:okB c=true)(h:¬((b.1<c.2.2.1/\c.1<b.2.2.1)/\b.2.1<c.2.2.2/\c.2.1<b.2.2.2)):Zaa Tryz.prog 40 [bxD b,bxD c] (.bool false):=by
 have h1:=Zm8 b;have h2:=Zm8 c;rw[hb]at h1;rw[hc]at h2;obtain⟨x0,y0,x1,y1⟩:=b;obtain⟨u0,v0,u1,v1⟩:=c;dsimp only at h;by_cases hx:max x0 u0<min x1 u1
 ·have hy:¬max y0 v0<min y1 v1:=by omega
  refine kE Tryz.func40 ?_;intro hat B X w0;refine kw1 kO (kc4 @Sx.ite_max @Sx.ite_min hx hy) (kc2 h1 h2) ?_;exact Zah rfl
 ·refine kE Tryz.func40 ?_;intro hat B X w0;refine kw1 kO (kc3 @Sx.ite_max @Sx.ite_min hx) (kc2 h1 h2) ?_;exact Zah rfl
theorem ZDI {g:Gph}{o:Opt}{zl:List (List Int)}{za:List Arc}{zc:List (List Int)}{R:Nat->Nat}{bs:List Bx}(hs:Zbs g)(hD:Drawn g o R bs)(hsp:0<=o.nsep)(h1:Zaa Tryz.prog 11 [ZaN g, .int 8, .int 10] (.bool true))(c2:¬4<o.rd)
  (h2:Zaa Tryz.prog 21 [ZaN g,ZbI o] (.tup [.sl (bs.map bxD),lvD (g.ns.length,zl,za,zc), .int 0]))(h4:∀v:Nat,v<g.ns.length->Zaa Tryz.prog 41 [lvD (g.ns.length,zl,za,zc), .int v] (.int (R v)))
  (hdn:∀(k:Nat) a,(Za3 g)[k]? =some a->a.1≠a.2->R a.1<R a.2):Zaa Tryz.prog 10 [ZaN g,ZbI o] (.bool true):=by
 have h9:=Zn3;have h5:=ZtX g (by have:=(ZeT hs.ok).1;omega);obtain⟨s,h6⟩:=Zt2 hs;have hbl:=hD.len;have h64:=hs.n8;have hin:=Zqv hs.ok;have hlb:=ZfP g;have h256:=(ZeT hs.ok).1;generalize Za3 g=l at*;have hcl:(Cyc.castA l).length=l.length:=Cyc.castA_len l;refine kE Tryz.func10 ?_;intro hat B X w0;refine kw1 kO (kc2 c2 hbl) (kc2 h1 h2) ?_;refine Zaf (λ(i:Nat)=>i<=g.ns.length) (λ i=>[(2, .ptr 2 0 0 0),(3, .ptr 3 0 0 0),(5, .d (.sl (bs.map bxD))),(6, .ptr 6 0 0 0),(8, .int i)]) (λ i=>[(2, .cells [.d (Za1 g.nm), .d (.bool g.dir), .d (.sl (g.ns.map ndD)), .d (.sl (g.es.map edD)), .d (.sl (g.cs.map clD))]),(3, .cells [.int o.md, .int o.nsep, .int o.rsep, .int o.mg, .int o.rd]),(6, .cells [.int g.ns.length, .d (Zae zl), .d (Zaj za), .d (Zae zc)])]) (λ i=>g.ns.length-i) 0 ?_ ?_ ?_
 ·exact uH _
 ·exact kN kc0 []
 ·intro i hi;rcases uE i g.ns.length with hlt|hge
  ·obtain⟨b,n,e1,e2,e3,e4,e5,e6,e7⟩:=hD.one i hlt;have bb:=Zja e7;have r1:=h4 i hlt;have two:=λ k c hk hki hc=>hD.two i k b c hlt hk hki e1 hc
   obtain⟨x0,y0,x1,y1⟩:=b;dsimp only at e3 e4 e5 e6 bb two;have d1:¬x0<0:=by omega
   have d2:¬y0<0:=by omega
   refine kw1 kO (kc7 e1 e2 e3 e4 d1 d2 hbl) kc0 ?_;refine Zaf (λ(k:Nat)=>k<=i) (λ k=>[(2, .ptr 2 0 0 0),(3, .ptr 3 0 0 0),(5, .d (.sl (bs.map bxD))),(6, .ptr 6 0 0 0),(8, .int i),(9, .int k)]) (λ k=>[(2, .cells [.d (Za1 g.nm), .d (.bool g.dir), .d (.sl (g.ns.map ndD)), .d (.sl (g.es.map edD)), .d (.sl (g.cs.map clD))]),(3, .cells [.int o.md, .int o.nsep, .int o.rsep, .int o.mg, .int o.rd]),(6, .cells [.int g.ns.length, .d (Zae zl), .d (Zaj za), .d (Zae zc)])]) (λ k=>i-k) 0 ?_ ?_ ?_
   ·exact uH _
   ·exact kN kc0 []
   ·intro k hk;rcases uE k i with hkl|hkg
    ·obtain⟨c,n',k1,_,_,_,_,_,k7⟩:=hD.one k (by omega);have cb:=Zja k7;have r2:=h4 k (by omega);obtain⟨t1,t2⟩:=two k c (by omega) (by omega) k1;have h7:=ZBn e7 k7 t2;obtain⟨u0,v0,u1,v1⟩:=c;dsimp only at t1 cb h7;by_cases a1:o.nsep<=x0-u1
     ·by_cases ra:(R i:Int)=R k
      ·refine kw1 kO (kc4 e1 k1 a1 ra) (kc3 h7 r1 r2) ?_;refine⟨k+1,?_,kN kc0 [],?_⟩
       ·exact hkl
       ·omega
      ·refine kw1 kO (kc4 e1 k1 a1 ra) (kc3 h7 r1 r2) ?_;refine⟨k+1,?_,kN kc0 [],?_⟩
       ·exact hkl
       ·omega
     ·by_cases a2:o.nsep<=u0-x1
      ·by_cases ra:(R i:Int)=R k
       ·refine kw1 kO (kc5 e1 k1 a1 a2 ra) (kc3 h7 r1 r2) ?_;refine⟨k+1,?_,kN kc0 [],?_⟩
        ·exact hkl
        ·omega
       ·refine kw1 kO (kc5 e1 k1 a1 a2 ra) (kc3 h7 r1 r2) ?_;refine⟨k+1,?_,kN kc0 [],?_⟩
        ·exact hkl
        ·omega
      ·have ra:¬(R i:Int)=R k:=λ h=>by
        have:=t1 (by omega);omega
       refine kw1 kO (kc5 e1 k1 a1 a2 ra) (kc3 h7 r1 r2) ?_;refine⟨k+1,?_,kN kc0 [],?_⟩
       ·exact hkl
       ·omega
    ·refine kw1 kO kc0 kc0 ?_;refine⟨i+1,?_,kN kc0 [],?_⟩
     ·exact hlt
     ·omega
  ·refine kw1 kO (kc1 hcl) (kc2 h5 h6) ?_;refine Zaf (λ(k:Nat)=>k<=l.length) (λ k=>[(3, .ptr 3 0 0 0),(5, .d (.sl (bs.map bxD))),(12, .ptr 12 0 0 0),(13, .int k)]) (λ k=>[(3, .cells [.int o.md, .int o.nsep, .int o.rsep, .int o.mg, .int o.rd]),(12, .cells [.int g.ns.length, .d (Zaj (Cyc.castA l))])]) (λ k=>l.length-k) 0 ?_ ?_ ?_
   ·exact uH _
   ·exact kN kc0 []
   ·intro k hk;rcases uE k l.length with hkl|hkg
    ·obtain⟨a,ha⟩:=Zac hkl;have hp:(Cyc.castA l)[k]? =some ((a.1:Int),(a.2:Int)):=Cyc.castA_get ha;obtain⟨m1,m2⟩:=hin a (uA ha);by_cases c:a.1=a.2
     ·have c':(a.1:Int)=a.2:=by omega
      refine kw1 kO (kc3 hp hcl @c') kc0 ?_;refine⟨k+1,?_,kN kc0 [],?_⟩
      ·exact hkl
      ·omega
     ·have c':¬(a.1:Int)=a.2:=by omega
      obtain⟨b,n,e1,_,_,_,_,_,e7⟩:=hD.one a.1 (by omega);obtain⟨d,n',k1,_,_,_,_,_,k7⟩:=hD.one a.2 (by omega);have hd:=hD.dn a.1 a.2 b d (by omega) (by omega) (hdn k a ha c) e1 k1;have bb:=Zja e7;have cb:=Zja k7;obtain⟨x0,y0,x1,y1⟩:=b;obtain⟨u0,v0,u1,v1⟩:=d;dsimp only at hd bb cb;have hd':¬v0-y1<o.rsep:=by omega
      refine kw1 kO (kc6 hp hcl @c' e1 k1 @hd') kc0 ?_;refine⟨k+1,?_,kN kc0 [],?_⟩
      ·exact hkl
      ·omega
    ·refine kw1 kO (kc1 hcl) (kc1 h9) ?_;exact Zah rfl
theorem Zux {g:Gph}{o:Opt}{e:Int}(h1:Zaa Tryz.prog 11 [ZaN g, .int 8, .int 10] (.bool true))(c2:¬4<o.rd)
  (h2:Zaa Tryz.prog 21 [ZaN g,ZbI o] (.tup [.sl [],lvD lv0, .int e]))(he:e≠0):Zaa Tryz.prog 10 [ZaN g,ZbI o] (.bool true):=by
 have h9:=Zn3;refine kE Tryz.func10 ?_;intro hat B X w0;have z1:((lv0.2.1.length:Nat):Int)=0:=rfl;refine kw kO (kc3 c2 he z1) (kc3 h1 h2 h9) ?_
 repeat' first|exact True.intro|refine Bn.mk ?_ ?_|intro hc
 exact Zah rfl
theorem ZzH (g:Gph)(o:Opt):Zaa Tryz.prog 10 [ZaN g,ZbI o] (.bool true):=by
 have h9:=Zn3;have h1:=Zrl g 8 10 (by decide) (by decide);rcases c1:ZfV g 8 10 with _|_<;>rw[c1]at h1
 ·refine kE Tryz.func10 ?_;intro hat B X w0;refine kw1 kO kc0 (kc2 h1 h9) ?_;exact Zah rfl
 ·obtain⟨f1,f2,f3,f4⟩:=Zny c1;by_cases c2:4<o.rd
  ·refine kE Tryz.func10 ?_;intro hat B X w0;refine kw1 kO (kc1 c2) (kc2 h1 h9) ?_;exact Zah rfl
  ·rcases Zte o f3 f1 (by omega)with⟨lv,n,e,h2,he⟩|⟨r,f,n,hs,ho,hS,hB,hb,hv,h2⟩
   ·exact Zux h1 c2 (ZpK h2 he) he
   ·obtain⟨zl,za,zc,y,ez,P⟩:=Ztm hs ho (by omega) hB hb hv;rw[ez]at h2;have hrk:=(built hb).rk;have h4:=Zmw P.pl (Zii ho).2 (by omega) P.ny h2 P.solve;by_cases hall:(ZdD g y zl o.rsep).all okB=true
    ·have hD:=drawn P.va P.gap P.pl (Zii ho).2.1 P.rk hall;rw[ZdD]at hall;rw[if_pos hall]at h4;refine ZDI hs hD (Zii ho).1.1 h1 c2 h4 (λ v hv=>?_) (λ k a ha hn=>?_)
     ·have:=ZCk _ (v:Int) P.wd;rw[Zjg,if_pos P.va.v,P.lay v hv]at this;exact this
     ·have:=Zwr hb ha hn;have:=hrk a.1;have:=hrk a.2
      (try dsimp only);omega
    ·rw[ZdD]at hall;rw[if_neg hall]at h4;exact Zux h1 c2 h4 (by decide)
end Go.Proofs.YtjjbhjnpeenbkaaGreatDoor.Gr
namespace Go.Proofs.YtjjbhjnpeenbkaaGreatDoor.Gr
open Go Go.PS Go.Proofs Go.Proofs.YtjjbhjnpeenbkaaGreatDoor Go.Proofs.YtjjbhjnpeenbkaaGreatDoor.Al Go.Proofs.YtjjbhjnpeenbkaaGreatDoor.Rt
open Go.Cy (NA InN Zbk Za5)
set_option maxRecDepth 100000
attribute [local irreducible] Zad wpG Zaa Zag
def Zdf (g:Gph)(ls:List (List Int))(sep:Int)(k:Nat):List Int:=(List.range k).map λ i=>ZaX g ls sep i+hL g ls i
theorem Zw0 (g:Gph)(ls:List (List Int))(sep:Int)(k:Nat):(Zdf g ls sep k).length=k:=by simp[Zdf]
theorem Zvl {g:Gph}{ls:List (List Int)}{sep:Int}{k i:Nat}(h:i<k):at0 (ZcC g ls sep k) i=ZaX g ls sep i:=by
 rw[at0,uM,ZcC,uI,yR h];rfl
theorem Zqu {g:Gph}{ls:List (List Int)}{sep:Int}{k i:Nat}(h:i<k):at0 (Zdf g ls sep k) i=ZaX g ls sep i+hL g ls i:=by
 rw[at0,uM,Zdf,uI,yR h];rfl
def plV (g:Gph)(y:List Int)(ls:List (List Int))(sep:Int)(R:Nat->Nat)(v:Nat):Bx:=plB g y (ZaX g ls sep (R v),hL g ls (R v)) v
theorem ZzC {g:Gph}{o:Opt}{zl:List (List Int)}{za:List Arc}{zc:List (List Int)}{y:List Int}{R:Nat->Nat}(P:Parts g o R zl za zc y)(hs:0<=o.rsep){k:Nat}{path:List Rt.Pt}
  (hl:Zh5 ((g.ns.length:Int),zl,za,zc) y (ZcC g zl o.rsep zl.length) (Zdf g zl o.rsep zl.length) k=(path,0)){L:List Bx}(hLb:∀b,b∈L->∃v:Nat,v<g.ns.length/\b=plV g y zl o.rsep R v):
  ZgX path L=true/\ZgX (Ze5 (Zd4 path) 3) L=true:=by
 obtain⟨c,K,c1,rfl,c3,c5⟩:=ZzE hl;dsimp only at c3 c5;have hlow:=P.pl.low;have hsep:=P.va.sep;have hbox:∀b,b∈L->∃(v:Nat) (n:Nd) (row:List Int),v<g.ns.length/\g.ns[v]? =some n/\zl[R v]? =some row/\(v:Int)∈row/\b.1=at0 y v-n.w/2/\b.2.2.1=at0 y v-n.w/2+n.w/\ZaX g zl o.rsep (R v)<=b.2.1/\b.2.2.2<=ZaX g zl o.rsep (R v)+hL g zl (R v):=λ b hb=>by
  obtain⟨v,hv,rfl⟩:=hLb b hb;obtain⟨n,hn⟩:=Zac hv;obtain⟨row,h1,h2⟩:=P.rk v hv;obtain⟨j,hj⟩:=yV.1 h2;have hh:=ZnJ (g:=g) h1 hj (by omega);rw[ZjW hn]at hh;have q1:=P.pl.nd n (uA hn);refine⟨v,n,row,hv,hn,h1,h2,?_,?_,?_,?_⟩<;>rw[plV,ZlV hn]<;>dsimp only<;>omega
 have A:Adj (Via (Far L)) (Zbo c y (ZcC g zl o.rsep zl.length) (Zdf g zl o.rsep zl.length) K c.length):=by
  refine ZBv c1 (λ i hi=>?_) (λ i h0 hi=>?_)
  ·obtain⟨_,k1⟩:=c3 i (by omega);obtain⟨_,k2⟩:=c3 (i+1) hi;rw[Zqu k1,Zvl k2];have hst:=Zis (g:=g) (ls:=zl) (sep:=o.rsep) hlow hs (i:=K+i) (k:=K+(i+1)) (by omega);generalize at0 y (at0 c (i:Int))=u1;generalize at0 y (at0 c ((i+1:Nat):Int))=u2;refine⟨(min u1 u2,ZaX g zl o.rsep (K+i)+hL g zl (K+i),max u1 u2,ZaX g zl o.rsep (K+(i+1))),?_,?_,λ b hb=>?_⟩
   ·simp only[Zci];omega
   ·simp only[Zci];omega
   ·obtain⟨v,n,row,hv,hn,h1,h2,x0,x1,y0,y1⟩:=hbox b hb;dsimp only;rcases jT (R v) (K+i)with h|h|h
    ·have:=Zis (g:=g) (ls:=zl) (sep:=o.rsep) hlow hs h;have:=ZfX hlow zl (K+i)
     right;right;right;omega
    ·rw[h]at y1
     right;right;right;omega
    ·rcases Nat.eq_or_lt_of_le (show K+(i+1)<=R v by omega)with e|e
     ·rw[<-e]at y0
      right;right;left;omega
     ·have:=Zis (g:=g) (ls:=zl) (sep:=o.rsep) hlow hs e;have:=ZfX hlow zl (K+(i+1))
      right;right;left;omega
  ·obtain⟨k0,k1⟩:=c3 i (by omega);have hd:=c5 i h0 hi;rw[Zvl k1,Zqu k1];have hh:=ZfX hlow zl (K+i);refine⟨(at0 y (at0 c (i:Int)),ZaX g zl o.rsep (K+i),at0 y (at0 c (i:Int)),ZaX g zl o.rsep (K+i)+hL g zl (K+i)),?_,?_,λ b hb=>?_⟩
   ·simp only[Zci];omega
   ·simp only[Zci];omega
   ·obtain⟨v,n,row,hv,hn,h1,h2,x0,x1,y0,y1⟩:=hbox b hb;dsimp only;rcases jT (R v) (K+i)with h|h|h
    ·have:=Zis (g:=g) (ls:=zl) (sep:=o.rsep) hlow hs h
     right;right;right;omega
    ·obtain⟨r,p,row',e1,e2⟩:=ZlE (Ze9.1 (show 0<=Zav zl (at0 c (i:Int)) by omega));have e3:=ZbT.lay P.va.nodup (v:=at0 c (i:Int)) (r:=r) (p:=p) ⟨row',e1,e2⟩;dsimp only at e3;have e4:r=R v:=by omega
     subst e4;rw[h1]at e1;cases e1;obtain⟨j,hj⟩:=yV.1 h2;have w1:=Zpv hn;have w2:=ZhF P.va (at0 c (i:Int));have q1:=P.pl.nd n (uA hn);rcases jT j p with hjp|hjp|hjp
     ·have:=Zl8 P.va P.gap (i:=R v) h1 hj p _ hjp e2;rw[w1]at this
      right;left;omega
     ·subst hjp;rw[hj]at e2;have:(v:Int)=at0 c (i:Int):=zR e2;omega
     ·have:=Zl8 P.va P.gap (i:=R v) h1 e2 j _ hjp hj;rw[w1]at this
      left;omega
    ·have:=Zis (g:=g) (ls:=zl) (sep:=o.rsep) hlow hs h
     right;right;left;omega
 exact⟨ZpX A,ZpX (ZxW A)⟩
theorem ZzD {g:Gph}{o:Opt}{ls:List (List Int)}{ar:List Arc}{cs:List (List Int)}{y:List Int}(h:Low g)(hs:0<=o.rsep/\o.rsep<=1048576)(hl:ls.length<=256)(hn:g.ns.length<=1000)(hv:∀y∈ls,y.length<=100000/\∀v∈y,0<=v)
  (h2:Zaa Tryz.prog 17 [lvD (g.ns.length,ls,ar,cs),Zab (Zbf g), .int o.nsep] (.tup [Zab y, .int 0])):
  Zaa Tryz.prog 22 [ZaN g,ZbI o,lvD (g.ns.length,ls,ar,cs)] (.tup [Zab y,Zab (ZcC g ls o.rsep ls.length),Zab (Zdf g ls o.rsep ls.length), .bool true]):=by
 have h1:=ZCo g hn;have h3:=ZCe g o ls ar cs h hs hl hn hv;have hT:∀i:Nat,i<ls.length->(ZcC g ls o.rsep ls.length)[i]? =some (ZaX g ls o.rsep i):=λ i hi=>by rw[ZcC,uI,yR hi];rfl
 have hH:∀i:Nat,i<ls.length->(ZdQ g ls ls.length)[i]? =some (hL g ls i):=λ i hi=>by rw[ZdQ,uI,yR hi];rfl
 have hTl:=Zvm g ls o.rsep ls.length;have hHl:=ZrM g ls ls.length;have hbl:=λ k=>Zw0 g ls o.rsep k
 have hbs:∀k,Zdf g ls o.rsep (k+1)=Zdf g ls o.rsep k++[ZaX g ls o.rsep k+hL g ls k]:=λ k=>by rw[Zdf,Zdf,qN,uQ];rfl
 generalize ZcC g ls o.rsep ls.length=T at*;generalize ZdQ g ls ls.length=H at*;refine kE Tryz.func22 ?_;intro hat B X w0;refine kw1 kO kc0 (kc3 h1 h2 h3) ?_;refine Zao _ (Zcy 14 901 1 rfl rfl) ?_;refine Zaf (λ(k:Nat)=>k<=ls.length) (λ k=>[(10, .d (Zab y)),(11, .int 0),(12, .d (Zab T)),(13, .d (Zab H)),(14, .ref 901 1 0 (Zdf g ls o.rsep k).length (Zdf g ls o.rsep k).length),(15, .int k)]) (λ k=>[(901, .row 1 ((Zdf g ls o.rsep k).map D.int))]) (λ k=>ls.length-k) 0 ?_ ?_ ?_
 ·exact uH _
 ·exact kN (kc4 @Zdf.eq_1 @jG @yH.{0,0} @uY.{0}) []
 ·intro k hk;have hkl:=hbl k;rcases uE k ls.length with hlt|hge
  ·have e1:=hbs k;have g1:=hT k hlt;have g2:=hH k hlt;have b1:=Zmo h ls hs k;have b2:=ZfX h ls k;generalize ZaX g ls o.rsep k=t at*;generalize hL g ls k=u at*;generalize Zdf g ls o.rsep k=R at*;have htk:(R.map D.int).take k=R.map D.int:=uD (by simp[hkl]);refine kw1 kO (kc6 g1 g2 hTl hHl hkl htk) kc0 ?_;refine⟨k+1,?_,kN (kc7 e1 @uG.{0} @yL.{0} @uQ.{0,0} @uT.{0,0} @yH.{0,0} hkl) [(901,49)],?_⟩
   ·exact hlt
   ·omega
  ·obtain rfl:k=ls.length:=by omega
   refine kw1 kO (kc1 hTl) kc0 ?_;exact⟨_,rfl,Zcm rfl,Zcm rfl,ZbF (o:=901) rfl rfl (by simp) (by rw[uD (by simp)]),Zah rfl,trivial⟩
def sbB (s:Int)(b:Bx):Bx:=(b.1-s,b.2.1,b.2.2.1-s,b.2.2.2)
def Zda (s u v:Int)(bs:List Bx):Nat->List Bx
 |0=>[]
 |k+1=>match bs[k]? with
  |some b=>if(k:Int)≠u/\(k:Int)≠v then Zda s u v bs k++[sbB s b]else Zda s u v bs k
  |none=>Zda s u v bs k
theorem ZBj {s u v:Int}{bs:List Bx}{c:Bx}:∀k,c∈Zda s u v bs k->∃(j:Nat) (b:Bx),bs[j]? =some b/\c=sbB s b:=by
 intro k
 induction k with
 |zero=>intro h;cases h
 |succ k ih=>
  intro h;rw[Zda]at h;split at h
  ·rename_i b hb;split at h
   ·rcases yK.1 h with h|h
    ·exact ih h
    ·rw[uS]at h;exact⟨k,b,hb,h⟩
   ·exact ih h
  ·exact ih h
theorem ZBi (s u v:Int)(bs:List Bx):∀k,(Zda s u v bs k).length<=k:=by
 intro k
 induction k with
 |zero=>exact uJ _
 |succ k ih=>
  rw[Zda];split
  ·split
   ·rw[uG,yL];omega
   ·omega
  ·omega
theorem ZxX {g:Gph}{o:Opt}{zl:List (List Int)}{za:List Arc}{zc:List (List Int)}{bs:List Bx}{y T Bo es:List Int}{G2:Int×List Arc}{s:Int}{LF:Nat->List Rt.Pt×Int}(h1:Zaa Tryz.prog 11 [ZaN g, .int 7, .int 9] (.bool true))(c2:¬3<o.rd)
  (h2:Zaa Tryz.prog 21 [ZaN g,ZbI o] (.tup [.sl (bs.map bxD),lvD (g.ns.length,zl,za,zc), .int 0]))(hbl:bs.length=g.ns.length)(hbk:∀(v:Nat) b,bs[v]? =some b->okB b=true)
  (h3:Zaa Tryz.prog 22 [ZaN g,ZbI o,lvD (g.ns.length,zl,za,zc)] (.tup [Zab y,Zab T,Zab Bo, .bool true]))(hny:g.ns.length<=y.length)(hy0:0<=at0 y 0/\at0 y 0<=34359738368)
  (hn0:∀n,n∈g.ns->1<=n.w/\n.w<=1048576)(hnl:g.ns.length<=1000)
  (h4:Zaa Tryz.prog 23 [ZaN g] (.tup [gD G2,Zab es]))(hes:∀(k:Nat) e,es[k]? =some e->0<=e/\e<g.es.length)(hel:es.length<=256)
  (h6:∀k:Nat,Zaa Tryz.prog 24 [lvD (g.ns.length,zl,za,zc),Zab y,Zab T,Zab Bo, .int k] (.tup [Rt.ptsD (LF k).1, .int (LF k).2]))
  (hs:∀b n,bs[0]? =some b->g.ns[0]? =some n->b.1+n.w/2-at0 y 0=s)
  (hcl:∀k,(LF k).2=0->∀L:List Bx,(∀c,c∈L->∃(j:Nat) (b:Bx),bs[j]? =some b/\c=sbB s b)->ZgX (LF k).1 L=true/\ZgX (Ze5 (Zd4 (LF k).1) 3) L=true):
  Zaa Tryz.prog 5 [ZaN g,ZbI o] (.bool true):=by
 have h9:=ZoK;have hny':¬(y.length:Int)<g.ns.length:=by omega
 refine kE Tryz.func5 ?_;intro hat B X w0;refine kw1 kO (kc3 c2 hbl @hny') (kc4 h1 h2 h3 h4) ?_;refine Zaf (λ(k:Nat)=>k<=es.length) (λ k=>[(2, .ptr 2 0 0 0),(5, .d (.sl (bs.map bxD))),(6, .ptr 6 0 0 0),(8, .d (Zab y)),(9, .d (Zab T)),(10, .d (Zab Bo)),(13, .d (Zab es)),(14, .int k)]) (λ k=>[(2, .cells [.d (Za1 g.nm), .d (.bool g.dir), .d (.sl (g.ns.map ndD)), .d (.sl (g.es.map edD)), .d (.sl (g.cs.map clD))]),(6, .cells [.int g.ns.length, .d (Zae zl), .d (Zaj za), .d (Zae zc)])]) (λ k=>es.length-k) 0 ?_ ?_ ?_
 ·exact uH _
 ·exact kN kc0 []
 ·intro k hk;rcases uE k es.length with hkl|hkg
  ·obtain⟨e,he⟩:=Zac hkl;obtain⟨e0,e1⟩:=hes k e he;obtain⟨e,rfl⟩:∃m:Nat,e=m:=⟨e.toNat,by omega⟩;obtain⟨d,hd⟩:=Zac (l:=g.es) (k:=e) (by omega);have hL:=h6 k;have hC:=hcl k;generalize LF k=lf at hL hC;obtain⟨path,f⟩:=lf;dsimp only at hL hC;by_cases f0:f=0
   ·subst f0;refine kw1 kO (kc2 he hd) (kc1 hL) ?_;refine Zao _ (Zcy 18 901 4 rfl rfl) ?_;refine Zaf (λ(v:Nat)=>v<=bs.length) (λ v=>[(2, .ptr 2 0 0 0),(5, .d (.sl (bs.map bxD))),(6, .ptr 6 0 0 0),(8, .d (Zab y)),(9, .d (Zab T)),(10, .d (Zab Bo)),(13, .d (Zab es)),(14, .int k),(15, .d (Rt.ptsD path)),(17, .ptr 17 0 0 0),(18, .ref 901 4 0 (Zda s d.fr d.to bs v).length (Zda s d.fr d.to bs v).length),(19, .int v)]) (λ v=>[(2, .cells [.d (Za1 g.nm), .d (.bool g.dir), .d (.sl (g.ns.map ndD)), .d (.sl (g.es.map edD)), .d (.sl (g.cs.map clD))]),(6, .cells [.int g.ns.length, .d (Zae zl), .d (Zaj za), .d (Zae zc)]),(17, .cells [.int d.fr, .int d.to, .int d.fp, .int d.tp, .d (Za1 d.lb), .int d.wt, .int d.ln]),(901, .row 4 ((Zda s d.fr d.to bs v).map bxD))]) (λ v=>bs.length-v) 0 ?_ ?_ ?_
    ·exact uH _
    ·exact kN (kc3 @Zda.eq_1 @yH.{0,0} @uY.{0}) []
    ·intro v hv;have hol:=ZBi s d.fr d.to bs v;rcases uE v bs.length with hvl|hvg
     ·obtain⟨b,hb⟩:=Zac hvl;have bb:=Zja (hbk v b hb);have e2:Zda s d.fr d.to bs (v+1)=if(v:Int)≠d.fr/\(v:Int)≠d.to then Zda s d.fr d.to bs v++[sbB s b]else Zda s d.fr d.to bs v:=by rw[Zda,hb]
      by_cases a1:(v:Int)=d.fr
      ·rw[if_neg (λ h=>h.1 a1)]at e2;refine kw1 kO (kc1 a1) kc0 ?_;refine⟨v+1,?_,kN (kc1 e2) [],?_⟩
       ·exact hvl
       ·omega
      ·by_cases a2:(v:Int)=d.to
       ·rw[if_neg (λ h=>h.2 a2)]at e2;refine kw1 kO (kc2 a1 a2) kc0 ?_;refine⟨v+1,?_,kN (kc1 e2) [],?_⟩
        ·exact hvl
        ·omega
       ·rw[if_pos ⟨a1,a2⟩]at e2;obtain⟨b0,hb0⟩:=Zac (l:=bs) (k:=0) (by omega);obtain⟨n,hn⟩:=Zac (l:=g.ns) (k:=0) (by omega);have hs0:=hs b0 n hb0 hn;have bb0:=Zja (hbk 0 b0 hb0);have hw:=hn0 n (uA hn);have q:n.w.tdiv 2=n.w/2:=zO (by omega);have hy:y[0]? =some (at0 y 0):=ZaG (i:=0) (by omega);generalize Zda s d.fr d.to bs v=O at*;have htk:(O.map bxD).take O.length=O.map bxD:=uD (by simp);obtain⟨x0,y0,x1,y1⟩:=b;obtain⟨u0,v0,u1,v1⟩:=b0;dsimp only[sbB]at e2 bb bb0 hs0;refine kw1 kO (kc8 a1 a2 hb hb0 hn q hy (kc2 hs0 htk)) kc0 ?_;refine⟨v+1,?_,kN (kc6 e2 @uG.{0} @yL.{0} @uQ.{0,0} @uT.{0,0} @yH.{0,0}) [(901,144)],?_⟩
        ·exact hvl
        ·omega
     ·obtain rfl:v=bs.length:=by omega
      obtain⟨f1,f2⟩:=hC rfl (Zda s d.fr d.to bs bs.length) (λ c hc=>ZBj _ hc);generalize Zda s d.fr d.to bs bs.length=O at*;have p1:=ZpF path O;have p2:=ZvM path;have p3:=ZvN (Zd4 path) 3;have p4:=ZpF (Ze5 (Zd4 path) 3) O;rw[f1]at p1;rw[f2]at p4;generalize Ze5 (Zd4 path) 3=fl at*;generalize Zd4 path=cu at*;refine Zao _ (Zc5 901 4 (O.map bxD) rfl (ZcW _ rfl) (by decide)) ?_;have htk:(O.map bxD).take O.length=O.map bxD:=uD (by simp);refine kw1 kO (kc1 htk) (kc4 p1 p2 p3 p4) ?_;refine⟨k+1,?_,kN kc0 [],?_⟩
      ·exact hkl
      ·omega
   ·refine kw1 kO (kc2 he f0) (kc1 hL) ?_;refine⟨k+1,?_,kN kc0 [],?_⟩
    ·exact hkl
    ·omega
  ·refine kw1 kO kc0 (kc1 h9) ?_;exact Zah rfl
theorem ZqS {g:Gph}{o:Opt}{e:Int}(h1:Zaa Tryz.prog 11 [ZaN g, .int 7, .int 9] (.bool true))(c2:¬(3<o.rd/\o.rd<=100))
  (h2:Zaa Tryz.prog 21 [ZaN g,ZbI o] (.tup [.sl [],lvD lv0, .int e]))(he:e≠0):Zaa Tryz.prog 5 [ZaN g,ZbI o] (.bool true):=by
 have h9:=ZoK;refine kE Tryz.func5 ?_;intro hat B X w0;refine kw kO (kc1 he) (kc3 h1 h2 h9) ?_
 repeat' first|exact True.intro|refine Bn.mk ?_ ?_|intro hc
 all_goals first|exact Zah rfl|(exfalso;omega)
theorem ZzI (g:Gph)(o:Opt):Zaa Tryz.prog 5 [ZaN g,ZbI o] (.bool true):=by
 have h9:=ZoK;have h1:=Zrl g 7 9 (by decide) (by decide);rcases c1:ZfV g 7 9 with _|_<;>rw[c1]at h1
 ·refine kE Tryz.func5 ?_;intro hat B X w0;refine kw1 kO kc0 (kc2 h1 h9) ?_;exact Zah rfl
 ·obtain⟨f1,f2,f3,f4⟩:=Zny c1;by_cases c2:3<o.rd/\o.rd<=100
  ·obtain⟨c2,c3⟩:=c2;refine kE Tryz.func5 ?_;intro hat B X w0;refine kw1 kO (kc2 c2 c3) (kc2 h1 h9) ?_;exact Zah rfl
  ·rcases Zte o f3 (by omega) (by omega)with⟨lv,n,e,h2,he⟩|⟨r,f,n,hs,ho,hS,hB,hb,hv,h2⟩
   ·exact ZqS h1 c2 (ZpK h2 he) he
   ·obtain⟨zl,za,zc,y,ez,P⟩:=Ztm hs ho (by omega) hB hb hv;rw[ez]at h2;have c3:¬3<o.rd:=by have:=ZAX ho;omega
    have h4:=Zmw P.pl (Zii ho).2 (by omega) P.ny h2 P.solve;generalize hR:(λ v:Nat=>(at0 r v).toNat)=R at P;by_cases hall:(ZdD g y zl o.rsep).all okB=true
    ·have hlen:(ZdD g y zl o.rsep).length=g.ns.length:=by rw[ZdD,uC,ZlW]
     have key:=λ v hv=>Zq3 (sep:=o.rsep) P.va P.pl P.rk (v:=v) hv
     have h4:Zaa Tryz.prog 21 [ZaN g,ZbI o] (.tup [.sl ((ZdD g y zl o.rsep).map bxD),lvD (g.ns.length,zl,za,zc), .int 0]):=by
      rw[ZdD]at hall;rw[if_pos hall]at h4;exact h4
     have hlv:∀q∈zl,q.length<=100000/\∀v∈q,0<=v:=λ q hq=>⟨(P.pl.hv q hq).1,λ v hv=>((P.pl.hv q hq).2 v hv).1⟩
     have h5:=ZzD P.pl.low (Zii ho).2 P.pl.hl (by omega) hlv P.solve;have hes:∀(k:Nat) e,(ZaR (Za3 g) (Za3 g).length)[k]? =some e->0<=e/\e<g.es.length:=λ k e he=>by
      rw[ZaR,uI,Option.map_eq_some_iff]at he;obtain⟨i,hi,rfl⟩:=he;have:=(Zj2 (uA hi)).1;have:=ZfP g;omega
     have hel:(ZaR (Za3 g) (Za3 g).length).length<=256:=by
      rw[ZaR,uC];have:=Zg4 (Za3 g) (Za3 g).length;have:=ZfP g;omega
     refine ZxX (LF:=λ k=>Zh5 ((g.ns.length:Int),zl,za,zc) y (ZcC g zl o.rsep zl.length) (Zdf g zl o.rsep zl.length) k) (s:=-(plO g y zl o.rsep zl.length).2.1) h1 c3 h4 hlen (λ v b hb=>uX.1 hall b (uA hb)) h5 P.ny (P.pl.y0 0)
      (λ n hn=>by have:=P.pl.nd n hn;omega) (by omega) (ZCb hs) hes hel (λ k=>ZvQ _ _ _ _ _ P.wd) (λ b n hb hn=>?_) (λ k h0 L hL=>?_)
     ·have h00:=(uB.1 hn).1;obtain⟨n',row,a1,_,_,a4,_⟩:=key 0 h00;rw[hn]at a1;cases a1;rw[hb]at a4;cases a4;simp only[shB];have:at0 y ((0:Nat):Int)=at0 y 0:=rfl;omega
     ·(try dsimp only at h0|-)
      refine ZzC P (Zii ho).2.1 (Prod.ext rfl h0) (λ c hc=>?_);obtain⟨j,b,hb,rfl⟩:=hL c hc;have hj:=(uB.1 hb).1;obtain⟨n',row,a1,_,_,a4,_⟩:=key j (by omega);rw[hb]at a4;cases a4;refine⟨j,by omega,?_⟩;rw[plV,ZlV a1];simp only[sbB,shB,Bl];refine⟨by omega,trivial,by omega,trivial⟩
    ·rw[ZdD]at hall;rw[if_neg hall]at h4;exact ZqS h1 c2 h4 (by decide)
end Go.Proofs.YtjjbhjnpeenbkaaGreatDoor.Gr
