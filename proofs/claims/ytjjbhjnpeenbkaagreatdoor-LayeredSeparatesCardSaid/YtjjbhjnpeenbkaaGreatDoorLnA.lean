/- Lanes: whether the numbers fit, as the program and as the reference decide it. -/
import Derived.Test.YtjjbhjnpeenbkaaGreatDoorCe
import Derived.Test.YtjjbhjnpeenbkaaGreatDoorO
import Derived.Test.YtjjbhjnpeenbkaaGreatDoorRtA
import Derived.Test.YtjjbhjnpeenbkaaGreatDoorPSEnd
set_option linter.unusedSimpArgs false
set_option linter.unusedVariables false
set_option maxHeartbeats 16000000
namespace Go.Proofs.YtjjbhjnpeenbkaaGreatDoor.Rt
open Go Go.PS Go.Proofs
set_option maxRecDepth 100000
attribute [local irreducible] Zad wpG Zaa Zag
theorem ZoI {p:Nat->Bool}{n k:Nat}(hk:k<n)(h:p k=true):(List.range n).any p=true:=gF.2 ⟨k,uZ.2 hk,h⟩
theorem ZCp {p:Nat->Bool}{n:Nat}(h:∀k,k<n->p k=false):(List.range n).any p=false:=by
 rw[zV];intro hq;obtain⟨k,hk,hp⟩:=gF.1 hq;rw[h k (uZ.1 hk)]at hp;cases hp
theorem Zqj {p:Nat->Bool}{k:Nat}(h:∀j,j<k->p j=false)(hk:p k=false):∀j,j<k+1->p j=false:=by
 intro j hj;rcases yY.1 hj with h1|rfl
 ·exact h j h1
 ·exact hk
theorem ZxH (x:Int):Zaa Tryz.prog 181 [.int x] (.bool (coB x)):=by
 refine kE Tryz.func181 ?_;intro hat B X w0;refine kw kO kc0 kc0 ?_
 repeat' first|exact True.intro|refine Bn.mk ?_ ?_|intro hc
 all_goals
  refine Zah ?_;simp only[coB, *,Ax,zT,Cs,Cr,Bm,Bool.or_false]
theorem Znh (l:List Int):Zaa Tryz.prog 121 [Zab l] (.bool (!l.any coB)):=by
 have h:=ZjK l 181 coB ZxH;refine kE Tryz.func121 ?_;intro hat B X w0;refine kw1 kO kc0 (kc1 h) ?_;exact Zah rfl
theorem Zrt (a:Lv)(x t b:List Int)(hw:wide a):Zaa Tryz.prog 70 [lvD a,Zab x,Zab t,Zab b] (.bool (Zdh a x t b)):=by
 have hv:=Zgh a hw;rw[Zdh];rcases h:Zar a with _|_<;>rw[h]at hv
 ·refine kE Tryz.func70 ?_;intro hat B X w0;refine kw1 kO kc0 (kc1 hv) ?_;exact Zah rfl
 ·obtain⟨t1,t2⟩:=ZcV h;have h1:=Znh x;have h2:=Znh t;have h3:=Znh b;rw[Zn1];obtain⟨n,ls,ar,cs⟩:=a;dsimp only at t1 t2 hv|-;refine kE Tryz.func70 ?_;intro hat B X w0;have hx:=ZaJ 1 hat rfl;have ht:=ZaJ 2 hat rfl;have hb:=ZaJ 3 hat rfl;rw[uC]at hx ht hb;refine kw1 kO kc0 (kc1 hv) ?_;refine Zaf (λ(k:Nat)=>k<=ls.length) (λ k=>[(1, .d (Zab x)),(2, .d (Zab t)),(3, .d (Zab b)),(4, .ptr 4 0 0 0),(9, .int (tot (ls.take k))),(17, .d (Zae ls)),(18, .int ls.length),(19, .int k)]) (λ k=>[(4, .cells [.int n, .d (Zae ls), .d (Zaj ar), .d (Zae cs)])]) (λ k=>ls.length-k) 0 ?_ ?_ ?_
  ·exact uH _
  ·exact kN (kc2 @yX.{0} @tot.eq_1) []
  ·intro k hk;have hle:=Zjr ls k;rcases uE k ls.length with hlt|hge
   ·obtain⟨y,hy⟩:=Zac hlt;have e1:=ZkI hy;have hle2:=Zjr ls (k+1);refine kw1 kO (kc1 hy) kc0 ?_;refine⟨k+1,?_,kN (kc2 e1 @qQ) [],?_⟩
    ·omega
    ·omega
   ·have:k=ls.length:=by omega
    subst this
    try dsimp only
    rw[yE];rcases c1:x.any coB with _|_<;>rw[c1]at h1<;>rcases c2:t.any coB with _|_<;>rw[c2]at h2<;>rcases c3:b.any coB with _|_<;>rw[c3]at h3
    ·by_cases c:x.length=tot ls/\t.length=ls.length/\b.length=ls.length
     ·obtain⟨ca,cb,cc⟩:=c;have caI:(x.length:Int)=tot ls:=by omega
      have cbI:(t.length:Int)=ls.length:=by omega
      have ccI:(b.length:Int)=ls.length:=by omega
      refine kw1 kO (kc3 caI cbI ccI) (kc3 h1 h2 h3) ?_;refine Zaf (λ(k:Nat)=>k<=t.length/\∀j,j<k->Zjs t b j=false) (λ k=>[(2, .d (Zab t)),(3, .d (Zab b)),(64, .int t.length),(65, .int k)]) (λ k=>[]) (λ k=>t.length-k) 0 ?_ ?_ ?_
      ·exact⟨uH _,λ j hj=>by omega⟩
      ·exact kN (kc1 cbI) []
      ·rintro k ⟨hk,hinv⟩;rcases uE k t.length with hlt|hge
       ·have g1:=ZaG hlt;have g2:=ZaG (r:=b) (i:=k) (by omega);rcases k with _|k
        ·have hu:Zjs t b 0=decide (at0 b 0<at0 t 0):=by simp[Zjs]
         have g1:t[0]? =some (at0 t 0):=g1;have g2:b[0]? =some (at0 b 0):=g2;by_cases d1:at0 b 0<at0 t 0
         ·refine kw1 kO (kc3 g1 g2 d1) kc0 ?_;refine Zah ?_;rw[ZoI (k:=0) (by omega) (by rw[hu,yD d1])];simp
         ·refine kw1 kO (kc3 g1 g2 d1) kc0 ?_;refine⟨1,?_,kN kc0 [],?_⟩
          ·exact⟨by omega,Zqj hinv (by rw[hu,uV d1])⟩
          ·omega
        ·have g3:=ZaG (r:=b) (i:=k) (by omega);have ek:((k+1:Nat):Int)-1=k:=by omega
         have ek0:(0:Int)<((k+1:Nat):Int):=by omega
         have hu:Zjs t b (k+1)=(decide (at0 b ((k+1:Nat):Int)<at0 t ((k+1:Nat):Int))||decide (at0 t ((k+1:Nat):Int)<at0 b (k:Int))):=by simp[Zjs]
         by_cases d1:at0 b ((k+1:Nat):Int)<at0 t ((k+1:Nat):Int)
         ·refine kw1 kO (kc3 g1 g2 d1) kc0 ?_;refine Zah ?_;rw[ZoI hlt (by rw[hu,yD d1];rfl)];simp
         ·by_cases d2:at0 t ((k+1:Nat):Int)<at0 b (k:Int)
          ·refine kw1 kO (kc7 g1 g2 g3 d1 d2 ek ek0) kc0 ?_;refine Zah ?_;rw[ZoI hlt (by rw[hu,yD d2,Cr])];simp
          ·refine kw1 kO (kc7 g1 g2 g3 d1 d2 ek ek0) kc0 ?_;refine⟨k+1+1,?_,kN kc0 [],?_⟩
           ·exact⟨by omega,Zqj hinv (by rw[hu,uV d1,uV d2];rfl)⟩
           ·omega
       ·refine kw1 kO kc0 kc0 ?_;refine Zah ?_;rw[ZCp (λ j hj=>hinv j (by omega)),yD ⟨ca,cb,cc⟩];rfl
     ·rw[uV c];refine kw kO kc0 (kc3 h1 h2 h3) ?_
      repeat' first|exact True.intro|refine Bn.mk ?_ ?_|intro hc
      all_goals exact Zah (by simp)
    all_goals
     refine kw kO kc0 (kc3 h1 h2 h3) ?_
     repeat' first|exact True.intro|refine Bn.mk ?_ ?_|intro hc
     all_goals exact Zah (by simp)
theorem ZmG (l:List Pt)(p:Pt)(hl:l.length<=2000):Zag Tryz.prog 71 [.d (ptD p), .ptr 1000 0 0 0] [(1000, .cells [.ref 1001 2 0 l.length l.length]),(1001, .row 2 (l.map ptD)),(2000, .dead)] (.tup [])
  [(1000, .cells [.ref 2000 2 0 (Zct l p).length (Zct l p).length]),(1001, .gone),(2000, .row 2 ((Zct l p).map ptD))]:=by
 rw[Zct];rcases Bz l with rfl|⟨m,q,rfl⟩
 ·rw[if_neg (by simp)];refine kM Tryz.func71 ?_;intro B X w0;refine Zdn ?_;refine kw1 kO kc0 kc0 ?_;refine⟨_,Zby.1 (kN (L:=[]) (M:=[(1000, .cells [.ref 2000 2 0 1 1]),(1001, .gone),(2000, .row 2 [ptD p])]) kc0 [(2000,19)]),?_⟩;exact⟨⟨[],rfl,trivial⟩,uK.2 ⟨rfl,uK.2 ⟨rfl,uK.2 ⟨rfl,uW _⟩⟩⟩⟩
 ·have hg:(m++[q])[m.length]? =some q:=by simp
  have hlen:(m++[q]).length=m.length+1:=by simp
  rw[Ca]at hl|-;have hgl:(m++[q]).getLast?=some q:=by simp
  rw[hgl];have hne:(m++[q]).length≠0:=by omega
  have en:(((m.length+1:Nat):Int)-1).toNat=m.length:=by omega
  by_cases c:q=p
  ·subst c;rw[if_pos rfl];generalize m++[q]=L at*;refine kM Tryz.func71 ?_;intro B X w0;refine Zdn ?_;refine kw1 kO (kc3 hlen hg en) kc0 ?_;refine⟨_,ZiT 1001 2000 rfl (by decide) (by decide),?_⟩;exact⟨⟨[],rfl,trivial⟩,uK.2 ⟨by simp[mvG,upd,Zap,Ob.ren,PV.ren],uK.2 ⟨rfl,uK.2 ⟨by simp[mvG,upd,Zap,Ob.ren,PV.ren],uW _⟩⟩⟩⟩
  ·rw[if_neg (by simpa using c)];have hd:(decide (q.1=p.1)&&decide (q.2=p.2))=false:=by rw[ZtL];exact uV c
   generalize m++[q]=L at*;refine kM Tryz.func71 ?_;intro B X w0;refine Zdn ?_;refine kw1 kO (kc4 hlen hg en hd) kc0 ?_;refine⟨_,Zby.1 (kN (L:=[]) (M:=[(1000, .cells [.ref 2000 2 0 (L++[p]).length (L++[p]).length]),(1001, .gone),(2000, .row 2 ((L++[p]).map ptD))]) (kc8 @uQ.{0,0} @uG.{0} @yB.{0} @uY.{0} @uT.{0,0} @yH.{0,0} hlen.symm (kc2 @yE.{0} @Zal)) [(2000,19)]),?_⟩;exact⟨⟨[],rfl,trivial⟩,uK.2 ⟨rfl,uK.2 ⟨rfl,uK.2 ⟨rfl,uW _⟩⟩⟩⟩
def Zh5 (a:Lv)(x t b:List Int)(e:Int):List Pn×Int:=
 if Zdh a x t b=false then([],1)else if e<0\/(a.2.2.2.length:Int)<=e then([],3)
 else(Zbo ((a.2.2.2[e.toNat]?).getD []) x t b (Zav a.2.1 (at0 ((a.2.2.2[e.toNat]?).getD []) 0)).toNat ((a.2.2.2[e.toNat]?).getD []).length,0)
theorem ZBw (c x t b:List Int)(k i:Nat)(h0:i=0)(h:i+1<c.length):Zbo c x t b k (i+1)=Zct (Zbo c x t b k i) (at0 x (at0 c i),at0 b ((k+i:Nat):Int)):=by
 simp only[Zbo];rw[if_pos h,if_neg (by omega)]
theorem Ztr (c x t b:List Int)(k i:Nat)(h0:0<i)(h:i+1<c.length):Zbo c x t b k (i+1)=Zct (Zct (Zbo c x t b k i) (at0 x (at0 c i),at0 t ((k+i:Nat):Int))) (at0 x (at0 c i),at0 b ((k+i:Nat):Int)):=by
 simp only[Zbo];rw[if_pos h0,if_pos h]
theorem Ztq (c x t b:List Int)(k i:Nat)(h0:0<i)(h:¬i+1<c.length):Zbo c x t b k (i+1)=Zct (Zbo c x t b k i) (at0 x (at0 c i),at0 t ((k+i:Nat):Int)):=by
 simp only[Zbo];rw[if_pos h0,if_neg h]
theorem ZED (l:List Pn)(p:Pn):(Zct l p).length<=l.length+1:=by unfold Zct;split<;>simp
theorem ZvQ (a:Lv)(x t b:List Int)(e:Int)(hw:wide a):Zaa Tryz.prog 24 [lvD a,Zab x,Zab t,Zab b, .int e] (.tup [ptsD (Zh5 a x t b e).1, .int (Zh5 a x t b e).2]):=by
 have hf:=Zrt a x t b hw;rw[Zh5];rcases h:Zdh a x t b with _|_<;>rw[h]at hf
 ·rw[if_pos rfl];refine kE Tryz.func24 ?_;intro hat B X w0;refine kw1 kO kc0 (kc1 hf) ?_;exact⟨_,rfl,Zcm rfl,Zai rfl,trivial⟩
 ·rw[if_neg (by decide)];by_cases he:e<0\/(a.2.2.2.length:Int)<=e
  ·rw[if_pos he];obtain⟨n,ls,ar,cs⟩:=a;dsimp only at he;refine kE Tryz.func24 ?_;intro hat B X w0;refine kw kO kc0 (kc1 hf) ?_
   repeat' first|exact True.intro|refine Bn.mk ?_ ?_|intro hc
   all_goals exact⟨_,rfl,Zcm rfl,Zai rfl,trivial⟩
  ·rw[if_neg he];obtain⟨hv,hx,ht,hb⟩:=Zrs h;obtain⟨t1,t2⟩:=ZcV hv;obtain⟨s1,s2,s3⟩:=Zia hv;obtain⟨e,rfl⟩:∃n:Nat,e=n:=⟨e.toNat,by omega⟩;rw[uM];obtain⟨c,hc0⟩:=Zac (l:=a.2.2.2) (k:=e) (by omega);rw[hc0,yN];have hcl:=s3 c (uA hc0);obtain⟨c1,c2,c3⟩:=Zvv hv hc0;have hrk:=Zv3 a (at0 c 0) hw;rw[Zjg,if_pos hv]at hrk;have c2':0<=Zav a.2.1 (at0 c 0):=c2;have c3':∀i:Nat,i<c.length->0<=at0 c i/\at0 c i<x.length/\((Zav a.2.1 (at0 c 0)).toNat+i:Nat)<t.length:=λ i hi=>by
    obtain⟨u1,u2,u3,u4⟩:=c3 i hi;have u3':Zav a.2.1 (at0 c i)=Zav a.2.1 (at0 c 0)+i:=u3;refine⟨u1,by omega,by omega⟩
   obtain⟨K,hK⟩:∃K:Nat,Zav a.2.1 (at0 c 0)=K:=⟨(Zav a.2.1 (at0 c 0)).toNat,by omega⟩;rw[hK,uM]at c3';rw[hK,uM];rw[hK]at hrk;have hc00:c[0]? =some (at0 c 0):=ZaG (by omega);obtain⟨n,ls,ar,cs⟩:=a;dsimp only at*;refine kE Tryz.func24 ?_;intro hat B X w0;refine kw1 kO (kc2 hc0 hc00) (kc2 hf hrk) ?_;refine Zao _ (Zch 12 0 901 2 rfl rfl rfl) ?_;refine Zaf (λ(i:Nat)=>i<=c.length) (λ i=>[(1, .d (Zab x)),(2, .d (Zab t)),(3, .d (Zab b)),(12, .ptr 12 0 0 0),(13, .fn 71 [.ptr 12 0 0 0]),(14, .d (Zab c)),(15, .int K),(44, .d (Zab c)),(45, .int c.length),(46, .int i)]) (λ i=>[(12, .cells [.ref 901 2 0 (Zbo c x t b K i).length (Zbo c x t b K i).length]),(901, .row 2 ((Zbo c x t b K i).map ptD))]) (λ i=>c.length-i) 0 ?_ ?_ ?_
   ·exact uH _
   ·exact kN (kc3 @Zbo.eq_1 @uY.{0} @yH.{0,0}) []
   ·intro i hi;have hpl:=Ztn c x t b K i;rcases uE i c.length with hlt|hge
    ·obtain⟨u1,u2,u3⟩:=c3' i hlt;have g0:=ZaG hlt;have g1:=ZdK (r:=x) u1 u2;have g2:=ZaG (r:=t) (i:=K+i) u3;have g3:=ZaG (r:=b) (i:=K+i) (by omega);have en:((K:Int)+(i:Int)).toNat=K+i:=by omega
     have a1:=ZmG (Zbo c x t b K i) (at0 x (at0 c i),at0 t ((K+i:Nat):Int)) (by omega);have a2:=ZmG (Zbo c x t b K i) (at0 x (at0 c i),at0 b ((K+i:Nat):Int)) (by omega);have hs:=ZED (Zbo c x t b K i) (at0 x (at0 c i),at0 t ((K+i:Nat):Int));have a3:=ZmG (Zct (Zbo c x t b K i) (at0 x (at0 c i),at0 t ((K+i:Nat):Int))) (at0 x (at0 c i),at0 b ((K+i:Nat):Int)) (by omega);rcases qM i with hi0|hi0
     ·have hp:=ZBw c x t b K i hi0 (by omega);refine kw1 kO (kc5 g0 g1 g2 g3 en) (kc1 (kmc [(1000,12),(1001,901),(2000,902)] a2)) ?_;refine⟨i+1,?_,kN (kc1 hp) [(901,902)],?_⟩
      ·omega
      ·omega
     ·by_cases hn:i+1<c.length
      ·have hp:=Ztr c x t b K i hi0 hn;refine kw1 kO (kc5 g0 g1 g2 g3 en) (kc2 (kmc [(1000,12),(1001,901),(2000,902)] a1) (kmc [(1000,12),(1001,902),(2000,903)] a3)) ?_;refine⟨i+1,?_,kN (kc1 hp) [(901,903)],?_⟩
       ·omega
       ·omega
      ·have hp:=Ztq c x t b K i hi0 hn;refine kw1 kO (kc5 g0 g1 g2 g3 en) (kc1 (kmc [(1000,12),(1001,901),(2000,902)] a1)) ?_;refine⟨i+1,?_,kN (kc1 hp) [(901,902)],?_⟩
       ·omega
       ·omega
    ·have:i=c.length:=by omega
     subst this;refine kw1 kO kc0 kc0 ?_;exact⟨_,rfl,ZbF (o:=901) rfl rfl (by simp) (Zal _ _),Zai rfl,trivial⟩
end Go.Proofs.YtjjbhjnpeenbkaaGreatDoor.Rt
namespace Go.Proofs.YtjjbhjnpeenbkaaGreatDoor.Rt
open Go Go.PS Go.Proofs
set_option maxRecDepth 100000
theorem Zxw {a:Lv}(h:Zar a=true){e:Nat}{c:List Int}(hc:a.2.2.2[e]? =some c):∀i:Nat,0<i->i+1<c.length->a.1<=at0 c i:=by
 obtain⟨b,hm,hr⟩:=Zgf h;have hcs:a.2.2.2=Za8 (ZaL a) (ZaE a).2 (ZaE a).2.length:=qU (λ x:Lv=>x.2.2.2) hm;rw[hcs]at hc;have hel:=(uB.1 hc).1;rw[ZiN _ _ _ (uJ _)]at hel;obtain⟨x,hx⟩:=Zac hel;rw[Zlm hx _ hel (uJ _),yI]at hc;subst hc;have hl:=b.len;have e1:(ZaE a).1=a.1:=rfl;have hle:(ZaL a).length<=(Zas (ZaL a) (ZaE a).2 e).length:=by rw[Zas,uG];omega
 intro i h0 hi;rw[Zll]at hi;obtain⟨j,rfl⟩:∃j,i=j+1:=⟨i-1,by omega⟩;have hg:(ZaB (ZaL a) (Zas (ZaL a) (ZaE a).2 e).length x)[j+1]? =some (((Zas (ZaL a) (ZaE a).2 e).length+j:Nat):Int):=by
  rw[ZaB,qE (by rw[Zgn];omega),Zcw,kB,uI,yR (by omega)];rfl
 rw[at0,uM,hg,yN];omega
def Adj (P:Pt->Pt->Prop)(l:List Pt):Prop:=∀(k:Nat) p q,l[k]? =some p->l[k+1]? =some q->P p q
section adj
variable {P:Pt->Pt->Prop}
theorem ZpY :Adj P []:=λ k p q h=>by simp at h
theorem ZpZ (a:Pt):Adj P [a]:=λ k p q _ h=>by simp at h
theorem Zp0 {l:List Pt}{p:Pt}(h:Adj P l)(hl:∀q,l.getLast?=some q->P q p):Adj P (l++[p]):=by
 intro k a b ha hb;rcases uE (k+1) l.length with c|c
 ·rw[qE c]at hb;rw[qE (by omega)]at ha;exact h k a b ha hb
 ·have hk:=(uB.1 hb).1;rw[uG,yL]at hk;rw[qF c,show k+1-l.length=0 by omega]at hb;rw[qE (by omega)]at ha;have e:p=b:=zR hb;subst e;exact hl a (by rw[Bg,show l.length-1=k by omega];exact ha)
theorem ZmH {l:List Pt}{p:Pt}(h:Adj P l)(hl:∀q,l.getLast?=some q->P q p):Adj P (Zct l p):=by
 rw[Zct];split
 ·exact h
 ·exact Zp0 h hl
theorem ZpW {S:Pt->Prop}(hP:∀a b,S a->S b->P a b):∀(m l:List Pt),Adj P l->(∀q,l.getLast?=some q->S q)->(∀x,x∈m->S x)->Adj P (l++m)
 |[],l,h,_,_=>by rw[yT];exact h
 |x::m,l,h,hl,hm=>by
  rw[show l++x::m=(l++[x])++m by simp];have hx:=hm x (by simp);refine ZpW hP m _ (Zp0 h λ q hq=>hP q x (hl q hq) hx) (λ q hq=>?_) λ y hy=>hm y (by simp[hy])
  rw[List.getLast?_append]at hq;have e:x=q:=zR hq;rw[<-e];exact hx
theorem ZBv {c x t b:List Int}{K:Nat}(hc:2<=c.length)
  (hB:∀i:Nat,i+1<c.length->P (at0 x (at0 c i),at0 b ((K+i:Nat):Int)) (at0 x (at0 c ((i+1:Nat):Int)),at0 t ((K+(i+1):Nat):Int)))
  (hV:∀i:Nat,0<i->i+1<c.length->P (at0 x (at0 c i),at0 t ((K+i:Nat):Int)) (at0 x (at0 c i),at0 b ((K+i:Nat):Int))):Adj P (Zbo c x t b K c.length):=by
 have key:∀i:Nat,i+1<c.length->Adj P (Zbo c x t b K (i+1))/\(Zbo c x t b K (i+1)).getLast?=some (at0 x (at0 c i),at0 b ((K+i:Nat):Int)):=by
  intro i
  induction i with
  |zero=>
   intro h;have e:Zbo c x t b K (0+1)=[(at0 x (at0 c ((0:Nat):Int)),at0 b ((K+0:Nat):Int))]:=by
    simp only[Zbo];rw[if_pos (by omega),if_neg (by omega),Zct,if_neg (by simp)];rfl
   rw[e];exact⟨ZpZ _,rfl⟩
  |succ i ih=>
   intro h;obtain⟨h1,h2⟩:=ih (by omega);rw[Ztr c x t b K (i+1) (by omega) h];have s1:Adj P (Zct (Zbo c x t b K (i+1)) (at0 x (at0 c ((i+1:Nat):Int)),at0 t ((K+(i+1):Nat):Int))):=ZmH h1 (λ q hq=>by
    rw[h2]at hq;cases hq;exact hB i (by omega))
   exact⟨ZmH s1 (λ q hq=>by
    rw[ZuW]at hq;cases hq;exact hV (i+1) (by omega) h),ZuW _ _⟩
 obtain⟨n,hn⟩:∃n,c.length=n+1+1:=⟨c.length-2,by omega⟩;obtain⟨h1,h2⟩:=key n (by omega);rw[hn,Ztq c x t b K (n+1) (by omega) (by omega)];exact ZmH h1 (λ q hq=>by
  rw[h2]at hq;cases hq;exact hB n (by omega))
end adj
theorem ZBk {l:List Pt}(hl:1<=l.length):∀m,m<=l.length-1->(Zcp l m)[3*m]? =l[m]? /\∀k p q,k<m->l[k]? =some p->l[k+1]? =some q->
  (Zcp l m)[3*k]? =some p/\(Zcp l m)[3*k+1]? =some (p.1,(2*p.2+q.2)/3)/\(Zcp l m)[3*k+2]? =some (q.1,(p.2+2*q.2)/3)/\(Zcp l m)[3*k+3]? =some q:=by
 intro m
 induction m with
 |zero=>
  intro _;obtain⟨p,hp⟩:=Zac (show 0<l.length by omega);rw[Zot hp];exact⟨hp.symm,λ k p q h=>by omega⟩
 |succ m ih=>
  intro hm;obtain⟨i1,i2⟩:=ih (by omega);obtain⟨p,hp⟩:=Zac (show m<l.length by omega);obtain⟨q,hq⟩:=Zac (show m+1<l.length by omega);have hlen:=Zos hl m (by omega);rw[Ztg hp hq];have old:∀(X:List Pt) j,j<1+3*m->(Zcp l m++X)[j]? =(Zcp l m)[j]? :=λ X j hj=>qE (by omega)
  have new:∀(X:List Pt) j,(Zcp l m++X)[1+3*m+j]? =X[j]? :=λ X j=>by
   rw[qF (by omega),hlen,show 1+3*m+j-(1+3*m)=j by omega]
  refine⟨?_,λ k a b hk ha hb=>?_⟩
  ·rw[show 3*(m+1)=1+3*m+2 by omega,new,hq];rfl
  ·rcases uE k m with c|c
   ·obtain⟨j1,j2,j3,j4⟩:=i2 k a b c ha hb;rw[old _ (3*k) (by omega),old _ (3*k+1) (by omega),old _ (3*k+2) (by omega),old _ (3*k+3) (by omega)];exact⟨j1,j2,j3,j4⟩
   ·obtain rfl:k=m:=by omega
    rw[hp]at ha;cases ha;rw[hq]at hb;cases hb;have n0:=new [(p.1,(2*p.2+q.2)/3),(q.1,(p.2+2*q.2)/3),q] 0;have n1:=new [(p.1,(2*p.2+q.2)/3),(q.1,(p.2+2*q.2)/3),q] 1;have n2:=new [(p.1,(2*p.2+q.2)/3),(q.1,(p.2+2*q.2)/3),q] 2;rw[show 1+3*k+0=3*k+1 by omega]at n0;rw[show 1+3*k+1=3*k+2 by omega]at n1;rw[show 1+3*k+2=3*k+3 by omega]at n2;exact⟨(old _ (3*k) (by omega)).trans (i1.trans hp),n0,n1,n2⟩
def Via (F:Bx->Prop)(p q:Pt):Prop:=∃B,Zci B p/\Zci B q/\F B
theorem ZxW {F:Bx->Prop}{l:List Pt}(h:Adj (Via F) l):Adj (Via F) (Ze5 (Zd4 l) 3):=by
 rcases hp:Zij l with _|_
 ·have e:Zd4 l=[]:=by rw[Zd4,hp];rfl
  rw[e,Ze5,if_neg (by decide)];exact ZpY
 ·have e:Zd4 l=Zcp l (l.length-1):=by rw[Zd4,hp];rfl
  obtain⟨h1,h2⟩:=Ztp hp;have hl:=Zos h1 _ (uJ _);have hat:=(ZBk h1 _ (uJ _)).2;have hc0:∀p,l[0]? =some p->(Zcp l (l.length-1))[0]? =some p:=λ p hp0=>by
   rcases qM (l.length-1)with z|z
   ·rw[z,Zot hp0];rfl
   ·obtain⟨q,hq⟩:=Zac (l:=l) (k:=0+1) (by omega);exact(hat 0 p q z hp0 hq).1
  rw[e,Ze5];generalize Zcp l (l.length-1)=c at*;have hm:c.length/3=l.length-1:=by omega
  split
  ·have key:∀(n k:Nat),k<=l.length-1->Adj (Via F) (ZeF c n k)/\(ZeF c n k).getLast?=l[k]? :=by
    intro n k
    induction k with
    |zero=>
     intro _;obtain⟨p,hp0⟩:=Zac (show 0<l.length by omega);rw[Zth (hc0 p hp0)];exact⟨ZpZ _,hp0.symm⟩
    |succ k ih=>
     intro hk;obtain⟨i1,i2⟩:=ih (by omega);obtain⟨p,hp⟩:=Zac (show k<l.length by omega);obtain⟨q,hq⟩:=Zac (show k+1<l.length by omega);obtain⟨j1,j2,j3,j4⟩:=hat k p q (by omega) hp hq;rw[Zou j1 j2 j3 j4];obtain⟨B,b1,b2,b3⟩:=h k p q hp hq;have m1:Zci B (p.1,(2*p.2+q.2)/3):=by simp only[Zci]at b1 b2|-;omega
     have m2:Zci B (q.1,(p.2+2*q.2)/3):=by simp only[Zci]at b1 b2|-;omega
     have hin:=ZBC n p _ _ q b1 m1 m2 b2;have hlast:(Zcb n p (p.1,(2*p.2+q.2)/3) (q.1,(p.2+2*q.2)/3) q).getLast?=some q:=by
      rw[Bg,Zkq];exact ZBD _ _ _ _ _
     refine⟨ZpW (S:=Zci B) (λ a b ha hb=>⟨B,ha,hb,b3⟩) _ _ i1 (λ a ha=>?_) hin,?_⟩
     ·rw[i2,hp]at ha;cases ha;exact b1
     ·rw[List.getLast?_append,hlast,hq];rfl
   rw[hm];exact(key _ _ (uJ _)).1
  ·exact ZpY
theorem Zmh {f g low high:Int}(h:(f<=low/\g<=low)\/(high<=f/\high<=g)):okS (Zbh f (g-f) low high)=false:=by
 unfold Zbh okS;split
 all_goals
  dsimp only;split
  all_goals
   simp only[Bool.and_eq_false_iff,qC];omega
theorem Zy8 {b B:Bx}{p q:Pt}(hp:Zci B p)(hq:Zci B q)(hs:B.2.2.1<=b.1\/b.2.2.1<=B.1\/B.2.2.2<=b.2.1\/b.2.2.2<=B.2.1):Zf0 b p q=false:=by
 simp only[Zci]at hp hq;have h:okS (Zbh p.1 (q.1-p.1) b.1 b.2.2.1)=false\/okS (Zbh p.2 (q.2-p.2) b.2.1 b.2.2.2)=false:=by
  rcases hs with h|h|h|h
  ·exact .inl (Zmh (.inl (by omega)))
  ·exact .inl (Zmh (.inr (by omega)))
  ·exact .inr (Zmh (.inl (by omega)))
  ·exact .inr (Zmh (.inr (by omega)))
 rw[Zf0];rcases h with h|h<;>simp[h]
def Far (L:List Bx)(B:Bx):Prop:=∀b,b∈L->B.2.2.1<=b.1\/b.2.2.1<=B.1\/B.2.2.2<=b.2.1\/b.2.2.2<=B.2.1
theorem ZpX {l:List Pt}{L:List Bx}(h:Adj (Via (Far L)) l):ZgX l L=true:=by
 rw[ZgX,ZmK];intro j hj;obtain⟨p,hp⟩:=Zac (show j<l.length by omega);obtain⟨q,hq⟩:=Zac (show j+1<l.length by omega);obtain⟨B,b1,b2,b3⟩:=h j p q hp hq;rw[Zky];simp only[hp,hq];rw[ZmK];intro k hk;obtain⟨b,hb⟩:=Zac hk;simp only[ZjT,hb,Zy8 b1 b2 (b3 b (uA hb)),Aw]
theorem ZzE {a:Lv}{x t b:List Int}{k:Nat}{path:List Pt}(h:Zh5 a x t b k=(path,0)):∃(c:List Int) (K:Nat),2<=c.length/\path=Zbo c x t b K c.length/\
  (∀j:Nat,j<c.length->Zav a.2.1 (at0 c j)=((K+j:Nat):Int)/\K+j<a.2.1.length)/\∀j:Nat,0<j->j+1<c.length->a.1<=at0 c j:=by
 rw[Zh5]at h;split at h
 ·exact absurd (qU Prod.snd h) (show¬(1:Int)=0 by decide)
 ·rename_i hf;have hf:Zdh a x t b=true:=by simpa using hf
  obtain⟨hv,_,_,_⟩:=Zrs hf;split at h
  ·exact absurd (qU Prod.snd h) (show¬(3:Int)=0 by decide)
  ·rename_i hk;obtain⟨c,hc⟩:=Zac (l:=a.2.2.2) (k:=k) (by omega);rw[uM,hc,yN]at h;obtain⟨c1,c2,c3⟩:=Zvv hv hc;have c2':0<=Zav a.2.1 (at0 c 0):=c2;refine⟨c,(Zav a.2.1 (at0 c 0)).toNat,c1,(qU Prod.fst h).symm,λ j hj=>?_,Zxw hv hc⟩;obtain⟨u1,u2,u3,u4⟩:=c3 j hj;have u3':Zav a.2.1 (at0 c j)=Zav a.2.1 (at0 c 0)+j:=u3;omega
end Go.Proofs.YtjjbhjnpeenbkaaGreatDoor.Rt
