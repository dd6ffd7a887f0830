/- Rank, Place: the walks. -/
import Derived.Test.YtjjbhjnpeenbkaaGreatDoorG
set_option linter.unusedSimpArgs false
set_option linter.unusedVariables false
set_option maxHeartbeats 16000000
namespace Go.Proofs.YtjjbhjnpeenbkaaGreatDoor
open Go Go.PS Go.Proofs
set_option maxRecDepth 100000
attribute [local irreducible] Zad wpG Zaa Zag
def Zjg (a:Lv)(v:Int):Int:=if Zar a then Zav a.2.1 v else -1
theorem Zv3 (a:Lv)(v:Int)(hw:wide a):Zaa Tryz.prog 72 [lvD a, .int v] (.int (Zjg a v)):=by
 have hv:=Zgh a hw;have hf:=ZiV a v;rw[Zjg];rcases h:Zar a with _|_<;>rw[h]at hv
 all_goals
  refine kE Tryz.func72 ?_;intro hat B X w0;refine kw1 kO kc0 (kc2 hv hf) ?_;exact Zai rfl
def ZrL (v:Int)(y:List Int):Bool:=y.any λ x=>decide (x=v)
theorem Zsb (ls:List (List Int))(v:Int):Zav ls v=ZcU (ls.findIdx? (ZrL v)):=rfl
theorem ZcV {a:Lv}(h:Zar a=true):a.2.1.length<=256/\tot a.2.1<=512:=by
 have:=Zvw h;exact ZtY (by rw[this])
theorem ZCk (a:Lv)(v:Int)(hw:wide a):Zaa Tryz.prog 41 [lvD a, .int v] (.int (Zjg a v)):=by
 have hv:=ZCj a hw;rw[<-ZFu]at hv;rw[Zjg];rcases h:Zar a with _|_<;>rw[h]at hv
 ·refine kE Tryz.func41 ?_;intro hat B X w0;refine kw1 kO kc0 (kc1 hv) ?_;exact Zai rfl
 ·obtain⟨t1,t2⟩:=ZcV h;obtain⟨n,ls,ar,cs⟩:=a;dsimp only at t1 t2;refine kE Tryz.func41 ?_;intro hat B X w0;refine kw1 kO kc0 (kc1 hv) ?_;refine Zaf (λ(i:Nat)=>i<=ls.length/\∀(j:Nat) y,j<i->ls[j]? =some y->ZrL v y=false) (λ i=>[(1, .int v),(2, .ptr 2 0 0 0),(5, .int i)]) (λ i=>[(2, .cells [.int n, .d (Zae ls), .d (Zaj ar), .d (Zae cs)])]) (λ i=>ls.length-i) 0 ?_ ?_ ?_
  ·exact⟨uH _,λ j y h=>by omega⟩
  ·exact kN kc0 []
  ·rintro i ⟨hi,hinv⟩;rcases uE i ls.length with hlt|hge
   ·obtain⟨y,hy⟩:=Zac hlt;have hyl:=Zdq (uA hy);refine kw1 kO (kc1 hy) kc0 ?_;refine Zaf (λ(k:Nat)=>k<=y.length/\∀(j:Nat) x,j<k->y[j]? =some x->decide (x=v)=false) (λ k=>[(1, .int v),(2, .ptr 2 0 0 0),(5, .int i),(6, .int k)]) (λ k=>[(2, .cells [.int n, .d (Zae ls), .d (Zaj ar), .d (Zae cs)])]) (λ k=>y.length-k) 0 ?_ ?_ ?_
    ·exact⟨uH _,λ j x h=>by omega⟩
    ·exact kN kc0 []
    ·rintro k ⟨hk,hinv2⟩;rcases uE k y.length with hlk|hgk
     ·obtain⟨x,hx⟩:=Zac hlk;refine kw kO (kc2 hy hx) kc0 ?_
      repeat' first|exact True.intro|refine Bn.mk ?_ ?_|intro hc
      ·refine Zai ?_;rw[Zsb,Zex hy (ZcE hx (by simpa using hc)) hinv];rfl
      ·refine⟨k+1,?_,eL [] _ _ (by refine⟨?_,?_⟩<;>(repeat' first|exact fmn|refine fmc ⟨(by first|rfl|(simp(disch:=omega) only[go_sem,simprocAttr,inL];first|done|omega|(congr 1;done))),?_⟩);done),?_⟩
       ·exact⟨by omega,Zbr hinv2 hx (by simpa using hc)⟩
       ·omega
     ·refine kw1 kO (kc1 hy) kc0 ?_;refine⟨i+1,?_,kN kc0 [],?_⟩
      ·exact⟨by omega,Zbr hinv hy (Zc2 λ j x hj=>hinv2 j x (by omega))⟩
      ·omega
   ·refine kw1 kO kc0 kc0 ?_;refine Zai ?_;rw[Zsb,Ze3 (λ j y hy=>hinv j y (by have:=(uB.1 hy).1;omega) hy)];rfl
theorem Znd (l:List Arc)(hn:l.length<=1000000):Zaa Tryz.prog 210 [Zaj l] (Zaj l):=by
 rcases gZ (l=[])with rfl|hl
 ·refine kE Tryz.func210 ?_;intro hat B X w0;refine kw1 kO kc0 kc0 ?_;refine Zku 4 rfl ?_;intro b;cases b
  ·refine kw1 (kow (Nat.beq 5) (b:=true)) kc0 kc0 ?_;exact Zcm rfl
  ·refine kw1 kO kc0 kc0 ?_;exact Zcm rfl
 ·have he:(l.map Za0).isEmpty=false:=by simpa using hl
  have hpos:0<l.length:=Ae.2 hl;refine kE Tryz.func210 ?_;intro hat B X w0;refine kw1 (kow (Nat.beq 5) (b:=true)) (kc2 he @Zal) kc0 ?_;exact ZbF (o:=7) rfl rfl (by simp) (uD (by simp))
theorem ZiO (l:List Int)(hn:l.length<=1000000):Zaa Tryz.prog 214 [Zab l] (Zab l):=by
 rcases gZ (l=[])with rfl|hl
 ·refine kE Tryz.func214 ?_;intro hat B X w0;refine kw1 kO kc0 kc0 ?_;refine Zku 4 rfl ?_;intro b;cases b
  ·refine kw1 (kow (Nat.beq 5) (b:=true)) kc0 kc0 ?_;exact Zcm rfl
  ·refine kw1 kO kc0 kc0 ?_;exact Zcm rfl
 ·have he:(l.map D.int).isEmpty=false:=by simpa using hl
  have hpos:0<l.length:=Ae.2 hl;refine kE Tryz.func214 ?_;intro hat B X w0;refine kw1 (kow (Nat.beq 5) (b:=true)) (kc2 he @Zal) kc0 ?_;exact ZbF (o:=7) rfl rfl (by simp) (uD (by simp))
theorem Zln (l:List (List Int))(hn:l.length<=1000)(hl:∀y,y∈l->y.length<=1000000):Zag Tryz.prog 247 [.d (Zae l)] [(2000, .dead)] (.ref 2000 1 0 l.length l.length) [(2000, .row 1 (l.map Zab))]:=by
 refine kM Tryz.func247 ?_;intro B X w0;refine kw1 kO kc0 kc0 ?_;refine Zao _ (Zra 7 l.length rfl) ?_;refine Zaf (λ(k:Nat)=>k<=l.length) (λ k=>[(0, .d (Zae l)),(3, .ref 7 1 0 l.length l.length),(9, .int l.length),(10, .int k)]) (λ k=>[(7, .row 1 ((l.take k).map Zab++List.replicate (l.length-k) (.sl [])))]) (λ k=>l.length-k) 0 ?_ ?_ ?_
 ·exact uH _
 ·exact kN (kc4 @yX.{0} @yH.{0,0} @gU.{0} @zG) []
 ·intro k hk;rcases uE k l.length with hlt|hge
  ·obtain⟨p,hp⟩:=Zac hlt;have hcp:=ZiO p (hl p (uA hp));have hst:((l.take k).map Zab++List.replicate (l.length-k) (D.sl [])).set k (Zab p)=(l.take (k+1)).map Zab++List.replicate (l.length-(k+1)) (D.sl []):=by
    have hlk:((l.take k).map Zab).length=k:=by rw[uC,yJ];omega
    have e:l.length-k=(l.length-(k+1))+1:=by omega
    rw[Cm,hlk,if_neg (by omega),jD,e,zE,jZ,ZaA hp,uQ,qK];rfl
   have hLn:((l.take k).map Zab++List.replicate (l.length-k) (D.sl [])).length=l.length:=by
    rw[uG,uC,yJ,qW];omega
   have hgk:((l.take k).map Zab++List.replicate (l.length-k) (D.sl []))[k]? =some (D.sl []):=by
    rw[qF (by rw[uC,yJ];omega),uC,yJ,jE (by omega),jD,gH,if_pos (by omega)]
   refine kw1 kO (kc3 hp hLn hgk) (kc1 hcp) ?_;refine⟨k+1,?_,kN (kc1 hst) [],?_⟩
   ·omega
   ·omega
  ·have:k=l.length:=by omega
   subst this
   try dsimp only
   rw[yE,jD,Cn,yT];refine kw1 kP kc0 kc0 ?_;refine kR kc0 [(2000,7)] [(2, .ref 2000 1 0 _ _)] [(2000, .row 1 _)] ?_;refine Za7 ?_;exact⟨rfl,uK.2 ⟨rfl,uW _⟩⟩
theorem Zlm {r:List Int}{l:List Arc}{k:Nat}{a:Arc}(ha:l[k]? =some a):∀e,k<e->e<=l.length->(Za8 r l e)[k]? =some (ZaB r (Zas r l k).length a)
 |0,h,_=>by omega
 |e+1,h,he=>by
  have hl:=ZiN r l e (by omega);rw[Za8,Za2];rw[Za8]at hl;rcases yY.1 h with h1|rfl
  ·rw[qE (by rw[hl];exact h1)];exact Zlm ha e h1 (by omega)
  ·rw[qF (by rw[hl];exact uJ _),hl,jD,ZjH,ha];rfl
theorem Zia {a:Lv}(h:Zar a=true):a.2.2.1.length<=800/\a.2.2.2.length<=256/\∀y,y∈a.2.2.2->y.length<=260:=by
 obtain⟨b,hm,hr⟩:=Zgf h;have h1:a.2.2.1=ZaV (ZaL a) (ZaE a).2 (ZaE a).2.length:=qU (λ x:Lv=>x.2.2.1) hm;have h2:a.2.2.2=Za8 (ZaL a) (ZaE a).2 (ZaE a).2.length:=qU (λ x:Lv=>x.2.2.2) hm;have h3:=Zk6 b.gap (ZaE a).2.length (uJ _);have h4:=ZiN (ZaL a) (ZaE a).2 (ZaE a).2.length (uJ _);have h5:=b.all_len;have h6:=(ZjU b.gok).2.2.1;rw[<-h1]at h3;rw[<-h2]at h4;refine⟨by omega,by omega,λ y hy=>?_⟩;obtain⟨k,hk⟩:=yU hy;have hkl:=(uB.1 hk).1;obtain⟨x,hx⟩:=Zac (l:=(ZaE a).2) (k:=k) (by omega);rw[h2,Zlm hx _ (by omega) (uJ _),yI]at hk;rw[<-hk,Zll,ZaI];have g1:=b.rk x.1.toNat;have g2:=b.rk x.2.toNat;have g3:=b.ends hx;rw[show((x.1.toNat:Nat):Int)=x.1 by omega]at g1;rw[show((x.2.toNat:Nat):Int)=x.2 by omega]at g2;omega
def Zfe (a:Lv)(i:Int)(o:List Int):Lv×Int:=
 if Zar a=false then(lv0,1)else if i<0\/(a.2.1.length:Int)<=i then(lv0,3)
 else if ZaM o≠ZaM ((a.2.1[i.toNat]?).getD [])then(lv0,6)else((a.1,a.2.1.set i.toNat o,a.2.2.1,a.2.2.2),0)
theorem ZpO (a:Lv)(i:Int)(o:List Int)(hw:wide a)(ho:o.length<=600):Zaa Tryz.prog 216 [lvD a, .int i,Zab o] (.tup [lvD (Zfe a i o).1, .int (Zfe a i o).2]):=by
 have hv:=Zgh a hw;rw[Zfe];rcases h:Zar a with _|_<;>rw[h]at hv
 ·rw[if_pos rfl];refine kE Tryz.func216 ?_;intro hat B X w0;refine kw1 kO kc0 (kc1 hv) ?_;refine⟨_,rfl,⟨_,_,_,_,rfl,?_⟩,Zai ?_,trivial⟩
  ·simp(disch:=omega) only[go_sem,simprocAttr,toD];rfl
  ·rfl
 ·rw[if_neg (by decide)];obtain⟨t1,t2⟩:=ZcV h;by_cases hi:i<0\/(a.2.1.length:Int)<=i
  ·rw[if_pos hi];obtain⟨n,ls,ar,cs⟩:=a;dsimp only at hi t1;refine kE Tryz.func216 ?_;intro hat B X w0;refine kw kO kc0 (kc1 hv) ?_
   repeat' first|exact True.intro|refine Bn.mk ?_ ?_|intro hc
   all_goals
    refine⟨_,rfl,⟨_,_,_,_,rfl,?_⟩,Zai ?_,trivial⟩
    ·simp(disch:=omega) only[go_sem,simprocAttr,toD];rfl
    ·rfl
  ·rw[if_neg hi];obtain⟨y,hy⟩:=Zac (l:=a.2.1) (k:=i.toNat) (by omega);have hyl:=Zdq (uA hy);rw[hy,yN];have hv1:=ZmC o;have hv2:=ZmC y;have hs1:=ZmB o (by omega);have hs2:=ZmB y (by omega);have he:=Zrb (ZaM o) (ZaM y);by_cases hso:ZaM o=ZaM y
   ·rw[if_neg (by simpa using hso)];rw[yD hso]at he;have hcl:=Zln a.2.1 (by omega) (λ y hy=>by have:=Zdq hy;omega);have hbd:a.2.2.1.length<=1000000/\a.2.2.2.length<=1000/\∀y,y∈a.2.2.2->y.length<=1000000:=by
     obtain⟨s1,s2,s3⟩:=Zia h;exact⟨by omega,by omega,λ y hy=>by have:=s3 y hy;omega⟩
    have hca:=Znd a.2.2.1 hbd.1;have hcc:=Zln a.2.2.2 hbd.2.1 hbd.2.2;have hco:=ZiO o (by omega);obtain⟨n,ls,ar,cs⟩:=a;dsimp only at hi t1 hy hcl hca hcc;refine kE Tryz.func216 ?_;intro hat B X w0
    repeat' first|refine ZbQ rfl ?_|refine Za7 ?_|refine wR ?_|(refine rc (hv) rfl ?_ ?_;(· first|rfl|simp(disch:=omega) only[go_sem,simprocAttr,qG,hy]))|(refine rc (hv1) rfl ?_ ?_;(· first|rfl|simp(disch:=omega) only[go_sem,simprocAttr,qG,hy]))|(refine rc (hv2) rfl ?_ ?_;(· first|rfl|simp(disch:=omega) only[go_sem,simprocAttr,qG,hy]))|(refine rc (hs1) rfl ?_ ?_;(· first|rfl|simp(disch:=omega) only[go_sem,simprocAttr,qG,hy]))|(refine rc (hs2) rfl ?_ ?_;(· first|rfl|simp(disch:=omega) only[go_sem,simprocAttr,qG,hy]))|(refine rc (he) rfl ?_ ?_;(· first|rfl|simp(disch:=omega) only[go_sem,simprocAttr,qG,hy]))|refine rcM [(2000,43)] (hcl) rfl ?_|refine rcM [(2000,49)] (hcc) rfl ?_|(refine rc (hca) rfl ?_ ?_;(· first|rfl|simp(disch:=omega) only[go_sem,simprocAttr,qG,hy]))|(refine rc (hco) rfl ?_ ?_;(· first|rfl|simp(disch:=omega) only[go_sem,simprocAttr,qG,hy]))|(refine ZbY rfl rfl (λ hc=>?_) (λ hc=>?_)<;>try simp only[hcL]at hc)|(refine ZbW _ rfl rfl (λ hc=>?_) (λ hc=>?_)<;>(try simp only[hcL]at hc)<;>try omega)|simp(disch:=omega) only[go_sem,simprocAttr,qG,hy]|apply And.intro|omega|decide+kernel
    refine⟨_,rfl,⟨_,_,_,_,rfl,?_⟩,Zai rfl,trivial⟩;simp(disch:=omega) only[go_sem,simprocAttr,toD,uC,yP,uJ,qR];rw[uD (by rw[yP,uC];exact uJ _),uD (by rw[uC];exact uJ _)];simp only[lvD,Zae,yZ]
   ·rw[if_pos (by simpa using hso)];rw[uV hso]at he;obtain⟨n,ls,ar,cs⟩:=a;dsimp only at hi t1 hy;refine kE Tryz.func216 ?_;intro hat B X w0;refine kw1 kO (kc1 hy) (kc6 hv hv1 hv2 hs1 hs2 he) ?_;refine⟨_,rfl,⟨_,_,_,_,rfl,?_⟩,Zai ?_,trivial⟩
    ·simp(disch:=omega) only[go_sem,simprocAttr,toD];rfl
    ·rfl
theorem ZFv {a b:Lv}(h:ZcX a=ZcX b):Zar a=Zar b:=by
 obtain⟨n,ls,ar,cs⟩:=a;obtain⟨n',ls',ar',cs'⟩:=b;simp only[ZcX,Bl]at h;obtain⟨rfl,h,rfl,rfl⟩:=h;have hlay:∀v,Zav ls v=Zav ls' v:=λ v=>by rw[<-Zo5,h,Zo5]
 have hlen:ls.length=ls'.length:=by rw[<-uC (f:=ZaM),h,uC]
 simp only[Zar,ZfY,Zgs,ZaE,ZaL,Zh8,ZcX,hlay,hlen,h];have e:∀w:Nat->Bool,w=w:=λ _=>rfl
 congr 3
 ·congr 1
  congr 1
  funext v
  simp only[Zh8,hlay]
theorem ZCI {a:Lv}{i:Nat}{o y:List Int}(hy:a.2.1[i]? =some y)(h:ZaM o=ZaM y):ZcX (a.1,a.2.1.set i o,a.2.2.1,a.2.2.2)=ZcX a:=by
 simp only[ZcX,yZ,h]
 congr 2
 refine qA λ u=>?_
 rw[qL];split
 ·subst i;rw[uI,hy];split
  ·rfl
  ·rename_i hn;rw[uC]at hn;exact absurd (uB.1 hy).1 hn
 ·rfl
theorem ZCJ {a:Lv}{i:Int}{o:List Int}(h:(Zfe a i o).2=0):Zar (Zfe a i o).1=true:=by
 rw[Zfe]at h|-;split at h
 ·cases h
 ·rename_i h1;split at h
  ·cases h
  ·rename_i h2;split at h
   ·cases h
   ·rename_i h3;rw[if_neg h1,if_neg h2,if_neg h3];obtain⟨y,hy⟩:=Zac (l:=a.2.1) (k:=i.toNat) (by omega);rw[hy,yN]at h3;rw[ZFv (ZCI hy (Decidable.not_not.1 h3))];simpa using h1
theorem ZCK {a:Lv}{i:Int}{o:List Int}(hw:wide a)(ho:o.length<=600):wide (Zfe a i o).1:=by
 rw[Zfe];split
 ·intro y hy;cases hy
 ·split
  ·intro y hy;cases hy
  ·rename_i h2;split
   ·intro y hy;cases hy
   ·rename_i h3;intro y hy;rcases jQ hy with hy|rfl
    ·exact hw y hy
    ·obtain⟨z,hz⟩:=Zac (l:=a.2.1) (k:=i.toNat) (by omega);rw[hz,yN]at h3;have e:=qU List.length (Decidable.not_not.1 h3);rw[(ZhC y).length_eq,(ZhC z).length_eq]at e;rw[e];exact hw z (uA hz)
end Go.Proofs.YtjjbhjnpeenbkaaGreatDoor
namespace Go.Proofs.YtjjbhjnpeenbkaaGreatDoor
open Go Go.PS Go.Proofs
set_option maxRecDepth 100000
attribute [local irreducible] Zad wpG Zaa Zag
theorem ZmS {l m:List Int}{n:Nat}(h:n<l.length):at0 (l++m) n=at0 l n:=by
 rw[at0,at0,uM,qE h]
theorem Zp3 (r:List Int)(l:List Arc){e m:Nat}(h:e<=m):∃x,Zas r l m=Zas r l e++x:=by
 refine⟨((l.drop e).take (m-e)).flatMap λ a=>Zan r a (ZaI r a),?_⟩;rw[Zas,Zas,qK,<-List.flatMap_append]
 congr 2
 obtain⟨k,rfl⟩:∃k,m=e+k:=⟨m-e,by omega⟩;rw[List.take_add,Bv]
theorem Zwt {r:List Int}{l:List Arc}{e:Nat}{a:Arc}(ha:l[e]? =some a):ZaV r l (e+1)=ZaV r l e++ZbV (ZaB r (Zas r l e).length a) (ZaI r a+1):=by
 rw[ZaV,Za2,ZiD,ha];rfl
theorem Zxs (r:List Int)(n0:Nat)(a:Arc):at0 (ZaB r n0 a) ((0:Nat):Int)=a.1:=rfl
theorem Zxu {r:List Int}{n0:Nat}{a:Arc}{j:Nat}(h:j<ZaI r a):at0 (ZaB r n0 a) ((j+1:Nat):Int)=((n0+j:Nat):Int):=by
 rw[ZaB,ZmS (by rw[Zgn];omega),at0,uM,Zcw,kB];simp[h]
theorem Zxt (r:List Int)(n0:Nat)(a:Arc):at0 (ZaB r n0 a) ((ZaI r a+1:Nat):Int)=a.2:=by
 rw[at0,uM,ZaB,qF (by rw[Zgn];exact uJ _),Zgn,jD];rfl
namespace Built
variable {g:Gr}{r:List Int}
theorem chain_at (b:Built g r){e j:Nat}{a:Arc}(ha:g.2[e]? =some a)(hj:j<=ZaI r a+1):
  0<=at0 (ZaB r (Zas r g.2 e).length a) j/\at0 (ZaB r (Zas r g.2 e).length a) j<(Zas r g.2 g.2.length).length/\at0 (Zas r g.2 g.2.length) (at0 (ZaB r (Zas r g.2 e).length a) j)=at0 r a.1+j:=by
 have hel:=(uB.1 ha).1;have he:=b.ends ha;have hg:=b.gap e a ha;have hl:=b.len;have hge:=b.all_ge;obtain⟨x,hx⟩:=Zp3 r g.2 (show 0<=g.2.length by omega);have h0:Zas r g.2 0=r:=by simp[Zas]
 rw[h0]at hx;have hpre:∀v:Int,0<=v->v<g.1->at0 (Zas r g.2 g.2.length) v=at0 r v:=λ v h1 h2=>by
  obtain⟨n,rfl⟩:∃n:Nat,v=n:=⟨v.toNat,by omega⟩;rw[hx,ZmS (by omega)]
 rcases qM j with rfl|h1
 ·rw[Zxs,hpre _ he.1 he.2.1];omega
 ·obtain⟨j,rfl⟩:∃i,j=i+1:=⟨j-1,by omega⟩;rcases uE j (ZaI r a)with h2|h2
  ·rw[Zxu h2];obtain⟨y,hy⟩:=Zp3 r g.2 (show e+1<=g.2.length by omega);rw[Ziz ha]at hy;have hlen:=qU List.length hy;simp only[uG,Zhd]at hlen;refine⟨by omega,by omega,?_⟩;rw[hy,ZmS (by rw[uG,Zhd];omega),at0,uM,qF (by omega),Bv];simp only[Zan,uI,yR h2,qB,yN];omega
  ·have hj2:j=ZaI r a:=by omega
   subst hj2;rw[Zxt,hpre _ he.2.2.1 he.2.2.2];have hgn:(ZaI r a:Int)=at0 r a.2-at0 r a.1-1:=by rw[ZaI];omega
   omega
end Built
end Go.Proofs.YtjjbhjnpeenbkaaGreatDoor
namespace Go.Proofs.YtjjbhjnpeenbkaaGreatDoor
open Go Go.PS Go.Proofs
set_option maxRecDepth 100000
attribute [local irreducible] Zad wpG Zaa Zag
theorem ZyV (m:List (Int×Int))(k v u:Int):Zbg (Zeg m k v) u=if k=u then v else Zbg m u:=by
 induction m with
 |nil=>simp only[Zeg,Zbg]
 |cons p m ih=>
  obtain⟨a,b⟩:=p;simp only[Zeg];by_cases h:a=k
  ·rw[if_pos h];simp only[Zbg];by_cases h2:k=u
   ·rw[if_pos h2,if_pos h2]
   ·rw[if_neg h2,if_neg h2,if_neg (by rw[h];exact h2)]
  ·rw[if_neg h];simp only[Zbg,ih];by_cases h2:a=u
   ·rw[if_pos h2,if_neg (by omega)];simp[h2]
   ·rw[if_neg h2];simp[h2]
def Zff (m:List (Int×Int))(y:List Int)(g:Nat->Int):Nat->List (Int×Int)
 |0=>m
 |k+1=>Zeg (Zff m y g k) (at0 y k) (g k)
def ZcD (h:Nat->Nat->Int)(ls:List (List Int)):Nat->List (Int×Int)
 |0=>[]
 |i+1=>Zff (ZcD h ls i) ((ls[i]?).getD []) (h i) (((ls[i]?).getD []).length)
def plM (ls:List (List Int)):List (Int×Int):=ZcD (λ _ k=>k) ls ls.length
def lyM (ls:List (List Int)):List (Int×Int):=ZcD (λ i _=>i) ls ls.length
theorem ZjX :∀{y:List Int} {k:Nat} {v:Int},y.Nodup->y[k]? =some v->y.idxOf v=k
 |[],k,v,_,h=>by simp at h
 |a::y,0,v,_,h=>by simp at h;subst h;simp
 |a::y,k+1,v,hn,h=>by
  have hn2:=yW.1 hn;have h2:y[k]? =some v:=by simpa using h
  have hne:a≠v:=λ e=>hn2.1 (e▸uA h2)
  have ih:=ZjX hn2.2 h2;have hb:(a==v)=false:=by simpa using hne
  simp[List.idxOf_cons,hb,ih]
theorem ZrE (m:List (Int×Int))(y:List Int)(g:Nat->Int)(u:Int):∀k,k<=y.length->y.Nodup->Zbg (Zff m y g k) u=if u∈y.take k then g (y.idxOf u)else Zbg m u
 |0,_,_=>by simp[Zff]
 |k+1,h,hn=>by
  have hk:=ZaG (r:=y) (i:=k) (by omega);have hi:y.idxOf (at0 y k)=k:=ZjX hn hk;rw[Zff,ZyV,ZrE m y g u k (by omega) hn,ZaA hk];simp only[yK,uS];by_cases c:at0 y k=u
  ·rw[if_pos c,if_pos (.inr c.symm),<-c,hi]
  ·rw[if_neg c];by_cases c2:u∈y.take k
   ·rw[if_pos c2,if_pos (.inl c2)]
   ·rw[if_neg c2,if_neg (by rintro(h1|h1);exact c2 h1;exact c h1.symm)]
theorem ZnI (h:Nat->Nat->Int)(ls:List (List Int))(hn:ls.flatten.Nodup)(u:Int):∀i,i<=ls.length->(∀k y,k<i->ls[k]? =some y->u∈y->Zbg (ZcD h ls i) u=h k (y.idxOf u))/\(u∉(ls.take i).flatten->Zbg (ZcD h ls i) u=0)
 |0,_=>⟨λ k y hk=>by omega,λ _=>rfl⟩
 |i+1,hi=>by
  obtain⟨y,hy⟩:=Zac (l:=ls) (k:=i) (by omega);obtain⟨g1,g2⟩:=ZnI h ls hn u i (by omega);have hsub:∀z,z∈ls->z.Nodup:=λ z hz=>(jC.1 hn).1 z hz
  have hyn:=hsub y (uA hy);have hr:=ZrE (ZcD h ls i) y (h i) u y.length (uJ _) hyn;rw[yE]at hr;have ha:ZcD h ls (i+1)=Zff (ZcD h ls i) y (h i) y.length:=by rw[ZcD,hy];rfl
  rw[ha,hr];refine⟨λ k z hk hz hu=>?_,λ hu=>?_⟩
  ·rcases yY.1 hk with h1|rfl
   ·have hd:=gO.1 (jC.1 hn).2 k i (uB.1 hz).1 (uB.1 hy).1 h1;have e1:=(uB.1 hz).2;have e2:=(uB.1 hy).2;rw[e1,e2]at hd;rw[if_neg (λ hu2=>hd u hu u hu2 rfl)];exact g1 k z h1 hz hu
   ·rw[hy]at hz;cases hz;rw[if_pos hu]
  ·rw[ZaA hy,Ad,yK]at hu;rw[if_neg (λ hu2=>hu (.inr (by simpa using hu2)))];exact g2 λ hu2=>hu (.inl hu2)
theorem ZBM (a:Lv)(hn:a.2.1.length<=1000)(hl:∀y,y∈a.2.1->y.length<=1000):Zag Tryz.prog 251 [.d (lvD a)] [(2000, .dead),(2001, .dead)] (.tup [.mp 2000, .mp 2001]) [(2000, .imap (plM a.2.1)),(2001, .imap (lyM a.2.1))]:=by
 obtain⟨n,ls,ar,cs⟩:=a;dsimp only at hn hl;refine kM Tryz.func251 ?_;intro B X w0;refine kw1 kO kc0 kc0 ?_;refine Zaf (λ(i:Nat)=>i<=ls.length) (λ i=>[(1, .ptr 1 0 0 0),(2, .mp 8),(3, .mp 9),(11, .d (Zae ls)),(12, .int ls.length),(13, .int i)]) (λ i=>[(1, .cells [.int n, .d (Zae ls), .d (Zaj ar), .d (Zae cs)]),(8, .imap (ZcD (λ _ k=>k) ls i)),(9, .imap (ZcD (λ i _=>i) ls i))]) (λ i=>ls.length-i) 0 ?_ ?_ ?_
 ·exact uH _
 ·exact kN (kc1 @ZcD.eq_1) []
 ·intro i hi;rcases uE i ls.length with hlt|hge
  ·obtain⟨y,hy⟩:=Zac hlt;have hyl:=hl y (uA hy);have e1:ZcD (λ _ k=>(k:Int)) ls (i+1)=Zff (ZcD (λ _ k=>(k:Int)) ls i) y (λ k=>(k:Int)) y.length:=by rw[ZcD,hy];rfl
   have e2:ZcD (λ i _=>(i:Int)) ls (i+1)=Zff (ZcD (λ i _=>(i:Int)) ls i) y (λ _=>(i:Int)) y.length:=by rw[ZcD,hy];rfl
   refine kw1 kO (kc1 hy) kc0 ?_;refine Zaf (λ(k:Nat)=>k<=y.length) (λ k=>[(1, .ptr 1 0 0 0),(2, .mp 8),(3, .mp 9),(4, .int i),(11, .d (Zae ls)),(12, .int ls.length),(13, .int i),(18, .d (Zab y)),(19, .int y.length),(20, .int k)]) (λ k=>[(1, .cells [.int n, .d (Zae ls), .d (Zaj ar), .d (Zae cs)]),(8, .imap (Zff (ZcD (λ _ k=>k) ls i) y (λ k=>(k:Int)) k)),(9, .imap (Zff (ZcD (λ i _=>i) ls i) y (λ _=>(i:Int)) k))]) (λ k=>y.length-k) 0 ?_ ?_ ?_
   ·exact uH _
   ·exact kN (kc1 @Zff.eq_1) []
   ·intro k hk;rcases uE k y.length with hlk|hgk
    ·have gy:=ZaG hlk;refine kw1 kO (kc1 gy) kc0 ?_;refine⟨k+1,?_,kN (kc1 @Zff.eq_1) [],?_⟩
     ·omega
     ·omega
    ·have:k=y.length:=by omega
     subst this;refine kw1 kO kc0 kc0 ?_;refine⟨i+1,?_,kN (kc2 e1 e2) [],?_⟩
     ·omega
     ·omega
  ·have:i=ls.length:=by omega
   subst this;refine kw1 kP kc0 kc0 ?_;refine kR kc0 [(2000,8),(2001,9)] [(2, .mp 2000),(3, .mp 2001)] [(2000, .imap (plM ls)),(2001, .imap (lyM ls))] ?_;refine Za7 ?_;exact⟨⟨_,rfl,rfl,rfl,trivial⟩,uK.2 ⟨rfl,uK.2 ⟨rfl,uW _⟩⟩⟩
def ZbT (ls:List (List Int))(v:Int)(r p:Nat):Prop:=∃y,ls[r]? =some y/\y[p]? =some v
theorem ZlE {ls:List (List Int)}{v:Int}(h:v∈ls.flatten):∃r p,ZbT ls v r p:=by
 obtain⟨y,hy,hv⟩:=zK.1 h;obtain⟨r,hr⟩:=yU hy;obtain⟨p,hp⟩:=yU hv;exact⟨r,p,y,hr,hp⟩
theorem ZbT.mem {ls:List (List Int)}{v:Int}{r p:Nat}(h:ZbT ls v r p):v∈ls.flatten:=by
 obtain⟨y,h1,h2⟩:=h;exact zK.2 ⟨y,uA h1,uA h2⟩
theorem ZbT.idx {ls:List (List Int)}(hn:ls.flatten.Nodup){v:Int}{r p:Nat}{y:List Int}(hy:ls[r]? =some y)(h:y[p]? =some v):y.idxOf v=p:=by
 have hyn:=(jC.1 hn).1 y (uA hy);exact ZjX hyn h
theorem ZbT.layer {ls:List (List Int)}(hn:ls.flatten.Nodup){v:Int}{r p r' p':Nat}(h:ZbT ls v r p)(h':ZbT ls v r' p'):r=r':=by
 obtain⟨y,h1,h2⟩:=h;obtain⟨z,h3,h4⟩:=h';have e1:=uB.1 h1;have e2:=uB.1 h3;have hp:=(jC.1 hn).2;rcases jT r r' with h|h|h
 ·have:=gO.1 hp r r' e1.1 e2.1 h;rw[e1.2,e2.2]at this;exact absurd rfl (this v (uA h2) v (uA h4))
 ·exact h
 ·have:=gO.1 hp r' r e2.1 e1.1 h;rw[e1.2,e2.2]at this;exact absurd rfl (this v (uA h4) v (uA h2))
theorem ZbT.ly {ls:List (List Int)}(hn:ls.flatten.Nodup){v:Int}{r p:Nat}(h:ZbT ls v r p):Zbg (lyM ls) v=r:=by
 obtain⟨y,h1,h2⟩:=h;exact(ZnI _ ls hn v ls.length (uJ _)).1 r y (uB.1 h1).1 h1 (uA h2)
theorem ZbT.pl {ls:List (List Int)}(hn:ls.flatten.Nodup){v:Int}{r p:Nat}(h:ZbT ls v r p):Zbg (plM ls) v=p:=by
 obtain⟨y,h1,h2⟩:=h;rw[plM,(ZnI _ ls hn v ls.length (uJ _)).1 r y (uB.1 h1).1 h1 (uA h2),ZbT.idx hn h1 h2]
theorem ZbT.lay {ls:List (List Int)}(hn:ls.flatten.Nodup){v:Int}{r p:Nat}(h:ZbT ls v r p):Zav ls v=r:=by
 have h0:=Ze9.2 h.mem;have hd:=h;obtain⟨y,h1,h2⟩:=h;rw[Zav]at h0|-;cases hf:ls.findIdx? (λ y=>y.any λ x=>decide (x=v))with
 |none=>rw[hf]at h0;exact absurd h0 (by decide)
 |some k=>
  have hk:=List.findIdx?_eq_some_iff_getElem.1 hf;obtain⟨hk1,hk2,_⟩:=hk;obtain⟨x,hx,hxv⟩:=gF.1 hk2;have:x=v:=by simpa using hxv
  subst this;obtain⟨p',hp'⟩:=yU hx;have:=ZbT.layer hn hd (⟨ls[k],uR hk1,hp'⟩:ZbT ls x k p');rw[this];rfl
structure Joins (ls:List (List Int))(x:Arc)(r p q:Nat):Prop where
 up:ZbT ls x.1 r p
 dn:ZbT ls x.2 (r+1) q
theorem Zfj {a:Lv}(h:Zar a=true):a.2.1.flatten.Nodup:=by
 obtain⟨_,_,hr⟩:=Zgf h;obtain⟨_,_,hg,_⟩:=Zhj hr;exact(Zgv.1 hg).2
theorem Zpr {a:Lv}(h:Zar a=true){k:Nat}{x:Arc}(hx:a.2.2.1[k]? =some x):∃r p q,Joins a.2.1 x r p q:=by
 have hn:=Zfj h;obtain⟨b,hm,hr⟩:=Zgf h;obtain⟨_,_,hg,ho⟩:=Zhj hr;have har:a.2.2.1=ZaV (ZaL a) (ZaE a).2 (ZaE a).2.length:=qU (λ x:Lv=>x.2.2.1) hm
 have hmem:∀m,m<=(ZaE a).2.length->∀x,x∈ZaV (ZaL a) (ZaE a).2 m->∃e c j,(ZaE a).2[e]? =some c/\j<ZaI (ZaL a) c+1/\x=Zhi (ZaB (ZaL a) (Zas (ZaL a) (ZaE a).2 e).length c) j:=by
  intro m
  induction m with
  |zero=>intro _ x hx;simp[ZaV,Za2]at hx
  |succ m ih=>
   intro hm x hx;obtain⟨c,hc⟩:=Zac (l:=(ZaE a).2) (k:=m) (by omega);rw[Zwt hc,yK]at hx;rcases hx with hx|hx
   ·exact ih (by omega) x hx
   ·simp only[ZbV,uP,uZ]at hx;obtain⟨j,hj,rfl⟩:=hx;exact⟨m,c,j,hc,hj,rfl⟩
 obtain⟨e,c,j,hc,hj,rfl⟩:=hmem _ (uJ _) x (har▸uA hx);obtain⟨x1,x2,x3⟩:=b.chain_at hc (j:=j) (by omega);obtain⟨y1,y2,y3⟩:=b.chain_at hc (j:=j+1) (by omega);rw[Zhi];generalize at0 (ZaB (ZaL a) (Zas (ZaL a) (ZaE a).2 e).length c) j=u at x1 x2 x3|-;generalize at0 (ZaB (ZaL a) (Zas (ZaL a) (ZaE a).2 e).length c) ((j+1:Nat):Int)=v at y1 y2 y3|-;have hlay:∀u:Int,0<=u->u<(Zas (ZaL a) (ZaE a).2 (ZaE a).2.length).length->Zav a.2.1 u=at0 (Zas (ZaL a) (ZaE a).2 (ZaE a).2.length) u:=by
  intro u h0 h1;have hl:(Zas (ZaL a) (ZaE a).2 (ZaE a).2.length).length=tot a.2.1:=by rw[ho,Zel]
  obtain⟨n,rfl⟩:∃n:Nat,u=n:=⟨u.toNat,by omega⟩;have:=Zjj (c:=tot a.2.1) (v:=n) (by omega) a.2.1;rw[<-ho,ZaG (by omega),yI]at this;exact this.symm
 have e1:=hlay u x1 x2;have e2:=hlay v y1 y2;have hrk:=b.rk c.1.toNat;have hin:=b.ends hc;rw[show((c.1.toNat:Nat):Int)=c.1 by omega]at hrk;obtain⟨r,p,hl1⟩:=ZlE (Ze9.1 (show 0<=Zav a.2.1 u by omega));obtain⟨r2,q,hl2⟩:=ZlE (Ze9.1 (show 0<=Zav a.2.1 v by omega));have e3:=hl1.lay hn;have e4:=hl2.lay hn;have:r2=r+1:=by omega
 subst this;exact⟨r,p,q,hl1,hl2⟩
def Ze2 (ls:List (List Int))(i f:Int)(p:Nat)(x:Arc):List Int:=
 if Zbg (lyM ls) x.1=i/\Zbg (lyM ls) x.2=f then(if Zbg (plM ls) x.1=p then[Zbg (plM ls) x.2]else[])
 else if Zbg (lyM ls) x.2=i/\Zbg (lyM ls) x.1=f then(if Zbg (plM ls) x.2=p then[Zbg (plM ls) x.1]else[])else[]
def Zd6 (ls:List (List Int))(ar:List Arc)(i f:Int)(k p:Nat):List Int:=(ar.take k).flatMap (Ze2 ls i f p)
theorem Zq5 {ls:List (List Int)}{ar:List Arc}{i f:Int}{k:Nat}{x:Arc}(hx:ar[k]? =some x)(p:Nat):Zd6 ls ar i f (k+1) p=Zd6 ls ar i f k p++Ze2 ls i f p x:=by
 simp[Zd6,ZaA hx]
theorem Zye (ls:List (List Int))(i f:Int)(p:Nat)(x:Arc):(Ze2 ls i f p x).length<=1:=by
 unfold Ze2;split
 ·split<;>simp
 ·split
  ·split<;>simp
  ·simp
theorem ZiS (ls:List (List Int))(ar:List Arc)(i f:Int)(p:Nat):∀k,(Zd6 ls ar i f k p).length<=k
 |0=>by simp[Zd6]
 |k+1=>by
  have ih:=ZiS ls ar i f p k;rcases uE k ar.length with h|h
  ·obtain⟨x,hx⟩:=Zac h;have:=Zye ls i f p x;rw[Zq5 hx,uG];omega
  ·rw[Zd6,uD (by omega)];rw[Zd6,uD (by omega)]at ih;omega
def Zbm (ls:List (List Int))(ar:List Arc)(i f:Int)(n:Nat):List (List Int):=(List.range n).map (Zd6 ls ar i f ar.length)
theorem Zyf (a:Lv)(i:Nat)(f:Int)(y:List Int)(h:Zar a=true)(hy:a.2.1[i]? =some y):Zaa Tryz.prog 221 [lvD a, .int i, .int f] (Zae (Zbm a.2.1 a.2.2.1 i f y.length)):=by
 have hn:=Zfj h;have hj:=λ k x hx=>Zpr h (k:=k) (x:=x) hx
 obtain⟨s1,s2,s3⟩:=Zia h;obtain⟨t1,t2⟩:=ZcV h;have hp:=ZBM a (by omega) (λ y hy=>by have:=Zdq hy;omega);have hyl:=Zdq (uA hy);have hil:i<a.2.1.length:=(uB.1 hy).1;obtain⟨n,ls,ar,cs⟩:=a;dsimp only at*;obtain⟨N,hN⟩:∃N,N=y.length:=⟨_,rfl⟩;rw[<-hN]at hyl|-;refine kE Tryz.func221 ?_;intro hat B X w0;refine kw1 kO (kc2 hy hN.symm) (kc1 (kmc [(2000,914),(2001,915)] hp)) ?_;refine Zao _ (ZjO 1 23 1 N rfl (λ i hi=>by simp(disch:=omega) only[go_sem,simprocAttr,Zkj,Zes]) (by decide) (by decide)) ?_;refine Zfd (λ(k:Nat)=>k<=ar.length) (λ k=>[(1, .int i),(2, .int f),(3, .ptr 3 0 0 0),(7, .mp 914),(8, .mp 915),(9, .ref 23 1 0 N N),(25, .d (Zaj ar)),(26, .int ar.length),(27, .int k)]) (λ k=>[⟨1,23,1,N,λ p=>(Zd6 ls ar i f k p).map D.int⟩]) (λ k=>[(3, .cells [.int n, .d (Zae ls), .d (Zaj ar), .d (Zae cs)]),(914, .imap (plM ls)),(915, .imap (lyM ls))]) (λ k=>ar.length-k) 0 ?_ ?_ ?_
 ·exact uH _
 ·refine kF kc0 [] [] ?_;exact kT0 (kc3 @Zd6.eq_1 @yX.{0} @Bb.{0,0})
 ·intro k hk;rcases uE k ar.length with hlt|hge
  ·obtain⟨x,hx⟩:=Zac hlt;obtain⟨r,p,q,hup,hdn⟩:=hj k x hx;have l1:=hup.ly hn;have l2:=hdn.ly hn;have p1:=hup.pl hn;have p2:=hdn.pl hn;have hst:=Zq5 (ls:=ls) (i:=i) (f:=f) hx;by_cases c1:r=i/\((r+1:Nat):Int)=f
   ·obtain⟨rfl,c2⟩:=c1;have hpN:p<N:=by
     obtain⟨z,z1,z2⟩:=hup;rw[hy]at z1;cases z1;rw[hN];exact(uB.1 z2).1
    have he:∀p',Ze2 ls r f p' x=if p'=p then[(q:Int)]else[]:=λ p'=>by
     rw[Ze2,l1,l2,p1,p2,if_pos ⟨rfl,c2⟩];by_cases c:p'=p
     ·rw[if_pos (by omega),if_pos c]
     ·rw[if_neg (by omega),if_neg c]
    have hel:=ZiS ls ar r f p k;refine Zao _ (ZfT _ _ [3,914,915,23] 23 p 900 1 1 N (by first|rfl|(simp(disch:=omega) only[go_sem,simprocAttr];done)|(simp(disch:=omega) only[go_sem,simprocAttr];rfl)) (by first|(simp(disch:=omega) only[go_sem,simprocAttr];done)|(simp(disch:=omega) only[go_sem,simprocAttr];rfl)) (by first|(simp(disch:=omega) only[go_sem,simprocAttr];done)|(simp(disch:=omega) only[go_sem,simprocAttr];rfl)) (λ i hi hne=>by simp(disch:=omega) only[go_sem,simprocAttr,hne];(repeat' split)<;>exact .ref _ _ _ _ _ ⟨by simp(disch:=omega) only[go_sem,simprocAttr,hne],by simp(disch:=omega) only[go_sem,simprocAttr,hne]⟩) (by(repeat' first|refine ZfJ ?_|exact ZfK (ids:=[3,914,915,23]) rfl rfl (yA rfl)|refine ZfI ?_|refine ZfL ?_|refine ZfG ?_|refine ZfM ?_|refine ZfN ?_|refine ZfH (by dsimp only;omega) (by dsimp only;omega) (by omega) (by omega) (yA rfl) ?_);done) rfl rfl rfl) ?_;refine kw1 kO (kc8 hx l1 l2 p1 p2 c2 @yE.{0} @Zal) kc0 ?_;refine⟨k+1,?_,kF kc0 [(fid 1 p,63)] [] ?_,?_⟩
    ·omega
    ·exact kT1 (kc8 hst he @uQ.{0,0} @uG.{0} @uC.{0,0} @yB.{0} @uY.{0} (kc2 @yT.{0} @Zal)) p
    ·omega
   ·by_cases c2:r+1=i/\(r:Int)=f
    ·obtain⟨c2,c3⟩:=c2;have c4:¬(r:Int)=i:=by omega
     have c5:((r+1:Nat):Int)=i:=by omega
     have hqN:q<N:=by
      obtain⟨z,z1,z2⟩:=hdn;rw[c2,hy]at z1;cases z1;rw[hN];exact(uB.1 z2).1
     have he:∀p',Ze2 ls i f p' x=if p'=q then[(p:Int)]else[]:=λ p'=>by
      rw[Ze2,l1,l2,p1,p2,if_neg (λ h=>c4 h.1),if_pos ⟨c5,c3⟩];by_cases c:p'=q
      ·rw[if_pos (by omega),if_pos c]
      ·rw[if_neg (by omega),if_neg c]
     have hel:=ZiS ls ar i f q k;refine Zao _ (ZfT _ _ [3,914,915,23] 23 q 900 1 1 N (by first|rfl|(simp(disch:=omega) only[go_sem,simprocAttr];done)|(simp(disch:=omega) only[go_sem,simprocAttr];rfl)) (by first|(simp(disch:=omega) only[go_sem,simprocAttr];done)|(simp(disch:=omega) only[go_sem,simprocAttr];rfl)) (by first|(simp(disch:=omega) only[go_sem,simprocAttr];done)|(simp(disch:=omega) only[go_sem,simprocAttr];rfl)) (λ i hi hne=>by simp(disch:=omega) only[go_sem,simprocAttr,hne];(repeat' split)<;>exact .ref _ _ _ _ _ ⟨by simp(disch:=omega) only[go_sem,simprocAttr,hne],by simp(disch:=omega) only[go_sem,simprocAttr,hne]⟩) (by(repeat' first|refine ZfJ ?_|exact ZfK (ids:=[3,914,915,23]) rfl rfl (yA rfl)|refine ZfI ?_|refine ZfL ?_|refine ZfG ?_|refine ZfM ?_|refine ZfN ?_|refine ZfH (by dsimp only;omega) (by dsimp only;omega) (by omega) (by omega) (yA rfl) ?_);done) rfl rfl rfl) ?_;refine kw1 kO (kc8 hx l1 l2 p1 p2 c3 c4 (kc3 c5 @yE.{0} @Zal)) kc0 ?_;refine⟨k+1,?_,kF kc0 [(fid 1 q,97)] [] ?_,?_⟩
     ·omega
     ·exact kT1 (kc8 hst he @uQ.{0,0} @uG.{0} @uC.{0,0} @yB.{0} @uY.{0} (kc2 @yT.{0} @Zal)) q
     ·omega
    ·have he:∀p',Ze2 ls i f p' x=[]:=λ p'=>by
      rw[Ze2,l1,l2,p1,p2,if_neg (λ h=>c1 ⟨by omega,h.2⟩),if_neg (λ h=>c2 ⟨by omega,h.2⟩)]
     by_cases d1:(r:Int)=i<;>by_cases d2:((r+1:Nat):Int)=f<;>by_cases d3:((r+1:Nat):Int)=i<;>by_cases d4:(r:Int)=f
     all_goals try (exfalso;omega)
     all_goals
      refine kw1 kO (kc8 hx l1 l2 p1 p2 d1 d2 (kc2 d3 d4)) kc0 ?_;refine⟨k+1,?_,kF kc0 [] [] ?_,?_⟩
      ·omega
      ·exact kT0 (kc3 hst he @yT.{0})
      ·omega
  ·have:k=ar.length:=by omega
   subst this
   try dsimp only
   refine Zao _ (ZjP _ _ _ _ ⟨Zb0 rfl,Zb0 rfl,(by(repeat' first|exact fmn|refine fmc ⟨⟨yA rfl,yA rfl,by dsimp only;omega⟩,?_⟩);done)⟩ rfl [3,914,915,23] rfl rfl rfl rfl) ?_;refine kw1 kO kc0 kc0 ?_;refine ZbF (o:=23) rfl rfl (by simp) ?_;rw[uD (by simp),Zbm,gR];rfl
def Zcu (q:List Int)(x:Int):Nat:=(q.filter λ y=>decide (y<x)).length
def ZcF :List Int->List Int->Nat
 |[],_=>0
 |x::p,q=>Zcu q x+ZcF p q
theorem Zvp (q:List Int)(x:Int):Zcu q x<=q.length:=gN _ _
theorem ZFh (q:List Int)(x y:Int):Zcu (q++[y]) x=Zcu q x+if y<x then 1 else 0:=by
 rw[Zcu,gC,uG,<-Zcu];by_cases h:y<x
 ·simp[h]
 ·simp[h]
theorem ZwP (p q:List Int)(x:Int):ZcF (p++[x]) q=ZcF p q+Zcu q x:=by
 induction p with
 |nil=>simp[ZcF]
 |cons y p ih=>simp only[jH,ZcF,ih];omega
theorem ZmV (p q:List Int):ZcF p q<=p.length*q.length:=by
 induction p with
 |nil=>simp[ZcF]
 |cons y p ih=>
  have:=Zvp q y;simp only[ZcF,yB,qJ];omega
theorem ZwQ (p q:List Int)(hp:p.length<=1000)(hq:q.length<=1000):Zaa Tryz.prog 222 [Zab p,Zab q] (.int (ZcF p q)):=by
 have hb:∀k,ZcF (p.take k) q<=1000*1000:=λ k=>by
  refine gP (ZmV _ _) (kZ ?_ hq);rw[yJ];omega
 refine kE Tryz.func222 ?_;intro hat B X w0;refine kw1 kO kc0 kc0 ?_;refine Zaf (λ(i:Nat)=>i<=p.length) (λ i=>[(1, .d (Zab q)),(5, .int (ZcF (p.take i) q)),(10, .d (Zab p)),(11, .int p.length),(12, .int i)]) (λ i=>[]) (λ i=>p.length-i) 0 ?_ ?_ ?_
 ·exact uH _
 ·exact kN (kc2 @yX.{0} @ZcF.eq_1) []
 ·intro i hi;rcases uE i p.length with hlt|hge
  ·obtain⟨x,hx⟩:=Zac hlt;have e1:ZcF (p.take (i+1)) q=ZcF (p.take i) q+Zcu q x:=by rw[ZaA hx,ZwP]
   have hb1:=hb i;have hb2:=hb (i+1);refine kw1 kO (kc1 hx) kc0 ?_;refine Zaf (λ(j:Nat)=>j<=q.length) (λ j=>[(1, .d (Zab q)),(5, .int (ZcF (p.take i) q+Zcu (q.take j) x)),(7, .int x),(10, .d (Zab p)),(11, .int p.length),(12, .int i),(16, .d (Zab q)),(17, .int q.length),(18, .int j)]) (λ j=>[]) (λ j=>q.length-j) 0 ?_ ?_ ?_
   ·exact uH _
   ·exact kN (kc5 @yX.{0} @Zcu.eq_1 @jX.{0} @uY.{0} @jW) []
   ·intro j hj;rcases uE j q.length with hlj|hgj
    ·obtain⟨y,hy⟩:=Zac hlj;have e2:Zcu (q.take (j+1)) x=Zcu (q.take j) x+if y<x then 1 else 0:=by rw[ZaA hy,ZFh]
     have hu:=Zvp (q.take j) x;rw[yJ]at hu;by_cases c:y<x
     ·rw[if_pos c]at e2;refine kw1 kO (kc2 hy c) kc0 ?_;refine⟨j+1,?_,kN (kc4 e2 @qQ @gV @zJ) [],?_⟩
      ·omega
      ·omega
     ·rw[if_neg c]at e2;refine kw1 kO (kc2 hy c) kc0 ?_;refine⟨j+1,?_,kN (kc2 e2 @gX) [],?_⟩
      ·omega
      ·omega
    ·have:j=q.length:=by omega
     subst this
     try dsimp only
     rw[yE];refine kw1 kO kc0 kc0 ?_;refine⟨i+1,?_,kN (kc2 e1 @qQ) [],?_⟩
     ·omega
     ·omega
  ·have:i=p.length:=by omega
   subst this
   try dsimp only
   rw[yE];refine kw1 kO kc0 kc0 ?_;exact Zai rfl
theorem ZjQ (a:Lv)(i:Int):Zaa Tryz.prog 217 [lvD a, .int i] (.bool (decide (0<=i/\i<a.2.1.length))):=by
 obtain⟨n,ls,ar,cs⟩:=a;refine kE Tryz.func217 ?_;intro hat B X w0;have hl:=Zcf 0 1 hat rfl rfl;rw[uC]at hl;dsimp only at hl;by_cases c:0<=i
 ·refine kw1 kO (kc1 c) kc0 ?_;refine Zah ?_;simp[c]
 ·refine kw1 kO (kc1 c) kc0 ?_;refine Zah ?_;simp[c]
def Zaw (l:List (List Int))(k:Nat):List Int:=(l[k]?).getD []
def Zd2 (at_:List (List Int))(a b:Nat):Int:=if a=b then 0 else ZcF (Zaw at_ a) (Zaw at_ b)
def Zc8 (at_:List (List Int)):List (List Int):=(List.range at_.length).map λ a=>(List.range at_.length).map λ b=>Zd2 at_ a b
def Zec (a:Lv)(i f:Int):Bool:=Zar a&&decide (0<=i/\i<a.2.1.length)&&decide (0<=f/\f<a.2.1.length)&&decide (f=i-1\/f=i+1)
def ZcM (a:Lv)(i:Int):Nat:=((a.2.1[i.toNat]?).getD []).length
def ZaU (a:Lv)(i f:Int):List (List Int):=if Zec a i f then Zc8 (Zbm a.2.1 a.2.2.1 i f (ZcM a i))else[]
def ZdP (at_:List (List Int))(a k:Nat):List Int:=Za9 (λ b=>Zd2 at_ a b) at_.length k
theorem ZvT (a:Lv)(i f:Nat)(hw:wide a)(hv:Zar a=true)(hi:i<a.2.1.length)(hf:f<a.2.1.length)(hif:(f:Int)=i-1\/(f:Int)=i+1):
  Zaa Tryz.prog 177 [lvD a, .int i, .int f] (Zae (Zc8 (Zbm a.2.1 a.2.2.1 i f (ZcM a i)))):=by
 have h1:=Zgh a hw;rw[hv]at h1;have h2:=ZjQ a i;have h3:=ZjQ a f;rw[yD (by omega)]at h2 h3;obtain⟨y,hy⟩:=Zac hi;have h4:=Zyf a i f y hv hy;have hla:ZcM a i=y.length:=by rw[ZcM,uM,hy];rfl
 rw[hla];obtain⟨t1,t2⟩:=ZcV hv;have hyl:=Zdq (uA hy);obtain⟨s1,_,_⟩:=Zia hv;have hEl:(Zbm a.2.1 a.2.2.1 i f y.length).length=y.length:=by simp[Zbm]
 have hEn:∀p∈Zbm a.2.1 a.2.2.1 i f y.length,p.length<=1000:=by
  intro p hp;simp only[Zbm,uP,uZ]at hp;obtain⟨k,_,rfl⟩:=hp;have:=ZiS a.2.1 a.2.2.1 i f k a.2.2.1.length;omega
 generalize Zbm a.2.1 a.2.2.1 i f y.length=E at*;obtain⟨N,hN⟩:∃N,N=E.length:=⟨_,rfl⟩;have hN5:N<=512:=by omega
 have hbh:∀(u v:Nat) p q,E[u]? =some p->E[v]? =some q->Zaa Tryz.prog 222 [Zab p,Zab q] (.int (ZcF p q)):=λ u v p q hu hv=>ZwQ p q (hEn p (uA hu)) (hEn q (uA hv))
 obtain⟨n,ls,ar,cs⟩:=a;dsimp only at*;refine kE Tryz.func177 ?_;intro hat B X w0;rcases hif with hif|hif
 all_goals
  refine kw1 kO (kc2 hif hN.symm) (kc4 h1 h2 h3 h4) ?_;refine Zao _ (ZjO 1 44 1 N rfl (λ i hi=>by simp(disch:=omega) only[go_sem,simprocAttr,Zkj,Zes]) (by decide) (by decide)) ?_;refine Zfd (λ(u:Nat)=>u<=N) (λ u=>[(3, .ptr 3 0 0 0),(7, .d (Zae E)),(8, .ref 44 1 0 N N),(46, .int N),(47, .int u)]) (λ u=>[⟨1,44,1,N,λ k=>if k<u then(ZdP E k N).map D.int else[]⟩]) (λ u=>[(3, .cells [.int n, .d (Zae ls), .d (Zaj ar), .d (Zae cs)])]) (λ u=>N-u) 0 ?_ ?_ ?_
  ·exact uH _
  ·refine kF (kc1 hN.symm) [] [] ?_;exact kT0 (kc1 @zS)
  ·intro u hu;rcases uE u N with hlt|hge
   ·obtain⟨eu,heu⟩:=Zac (l:=E) (k:=u) (by omega);have hz:List.replicate N (D.int 0)=(ZdP E u 0).map D.int:=by rw[ZdP,Zh0,hN]
    have hnu:¬u<u:=by omega
    refine Zao _ (ZfT _ _ [3,44] 44 u 900 1 1 N (by first|rfl|(simp(disch:=omega) only[go_sem,simprocAttr,hnu];done)|(simp(disch:=omega) only[go_sem,simprocAttr,hnu];rfl)) (by first|(simp(disch:=omega) only[go_sem,simprocAttr,hnu];done)|(simp(disch:=omega) only[go_sem,simprocAttr,hnu];rfl)) (by first|(simp(disch:=omega) only[go_sem,simprocAttr,hnu];done)|(simp(disch:=omega) only[go_sem,simprocAttr,hnu];rfl)) (λ i hi hne=>by simp(disch:=omega) only[go_sem,simprocAttr,hne,hnu];(repeat' split)<;>exact .ref _ _ _ _ _ ⟨by simp(disch:=omega) only[go_sem,simprocAttr,hne,hnu],by simp(disch:=omega) only[go_sem,simprocAttr,hne,hnu]⟩) (by(repeat' first|refine ZfJ ?_|exact ZfK (ids:=[3,44]) rfl rfl (yA rfl)|refine ZfI ?_|refine ZfL ?_|refine ZfG ?_|refine ZfM ?_|refine ZfN ?_|refine ZfH (by dsimp only;omega) (by dsimp only;omega) (by omega) (by omega) (yA rfl) ?_);done) rfl rfl rfl) ?_;refine kw1 (kow (Nat.beq 54) (b:=true)) (kc2 hN.symm hnu) kc0 ?_;refine Zfd (λ(b:Nat)=>b<=N) (λ b=>[(3, .ptr 3 0 0 0),(7, .d (Zae E)),(8, .ref 44 1 0 N N),(9, .int u),(46, .int N),(47, .int u),(57, .int N),(58, .int b)]) (λ b=>[⟨1,44,1,N,λ k=>if k<u then(ZdP E k N).map D.int else if k=u then(ZdP E u b).map D.int else[]⟩]) (λ b=>[(3, .cells [.int n, .d (Zae ls), .d (Zaj ar), .d (Zae cs)])]) (λ b=>N-b) 0 ?_ ?_ ?_
    ·exact uH _
    ·refine kF (kc1 hN.symm) [(fid 1 u,54)] [] ?_;exact kT1 (kc6 hz @ZdB @ZdP.eq_1 @uC.{0,0} hN.symm hnu) u
    ·intro b hb;have hfl:=ZdB (λ b=>Zd2 E u b) E.length b;rw[<-hN]at hfl;rcases uE b N with hlb|hgb
     ·obtain⟨eb,heb⟩:=Zac (l:=E) (k:=b) (by omega);have hg:(ZdP E u b)[b]? =some 0:=by rw[ZdP,Zft (by omega),if_neg (by omega)]
      have hst:(ZdP E u b).set b (Zd2 E u b)=ZdP E u (b+1):=ZhZ (g:=λ b=>Zd2 E u b) (by omega);have hbe:=hbh u b eu eb heu heb;have hfl2:(ZdP E u b).length=N:=by rw[ZdP,ZdB,hN]
      by_cases c:u=b
      ·have hcell:Zd2 E u b=0:=by rw[Zd2,if_pos c]
       have hst2:ZdP E u (b+1)=ZdP E u b:=by
        rw[<-hst,hcell];refine qA λ v=>?_
        rw[qL];split
        ·rename_i hv2;subst hv2;rw[hg,if_pos (by omega)]
        ·rfl
       have cI:(u:Int)=b:=by omega
       refine kw1 kO (kc2 hN.symm cI) kc0 ?_;refine⟨b+1,?_,kF kc0 [] [] ?_,?_⟩
       ·omega
       ·exact kT1 (kc2 hst2 hnu) u
       ·omega
      ·have hcell:Zd2 E u b=ZcF eu eb:=by rw[Zd2,if_neg c,Zaw,Zaw,heu,heb];rfl
       have cI:¬(u:Int)=b:=by omega
       rw[hcell]at hst;refine Zao _ (ZfT _ _ [3,44] 44 u 900 1 1 N (by first|rfl|(simp(disch:=omega) only[go_sem,simprocAttr,hnu,hfl2];done)|(simp(disch:=omega) only[go_sem,simprocAttr,hnu,hfl2];rfl)) (by first|(simp(disch:=omega) only[go_sem,simprocAttr,hnu,hfl2];done)|(simp(disch:=omega) only[go_sem,simprocAttr,hnu,hfl2];rfl)) (by first|(simp(disch:=omega) only[go_sem,simprocAttr,hnu,hfl2];done)|(simp(disch:=omega) only[go_sem,simprocAttr,hnu,hfl2];rfl)) (λ i hi hne=>by simp(disch:=omega) only[go_sem,simprocAttr,hne,hnu,hfl2];(repeat' split)<;>exact .ref _ _ _ _ _ ⟨by simp(disch:=omega) only[go_sem,simprocAttr,hne,hnu,hfl2],by simp(disch:=omega) only[go_sem,simprocAttr,hne,hnu,hfl2]⟩) (by(repeat' first|refine ZfJ ?_|exact ZfK (ids:=[3,44]) rfl rfl (yA rfl)|refine ZfI ?_|refine ZfL ?_|refine ZfG ?_|refine ZfM ?_|refine ZfN ?_|refine ZfH (by dsimp only;omega) (by dsimp only;omega) (by omega) (by omega) (yA rfl) ?_);done) rfl rfl rfl) ?_;refine kw1 kO (kc7 hN.symm cI heu heb hg hfl2 hnu) (kc1 hbe) ?_;refine⟨b+1,?_,kF kc0 [(fid 1 u,900)] [] ?_,?_⟩
       ·omega
       ·exact kT1 (kc6 @hst.symm @yZ.{0,0} @yP.{0} @uC.{0,0} hfl2 hnu) u
       ·omega
     ·have:b=N:=by omega
      subst this;have hsu:∀i,i≠u->((i<u+1)=(i<u)):=λ i h=>propext (by omega)
      refine kw1 kO kc0 kc0 ?_;refine⟨u+1,?_,kF kc0 [] [] ?_,?_⟩
      ·omega
      ·exact kT1 (kc3 hnu hsu @Di) u
      ·omega
   ·have:u=N:=by omega
    subst this
    try dsimp only
    refine Zao _ (ZjP _ _ _ _ ⟨Zb0 rfl,Zb0 rfl,(by(repeat' first|exact fmn|refine fmc ⟨⟨yA rfl,yA rfl,by dsimp only;omega⟩,?_⟩);done)⟩ rfl [3,44] rfl rfl rfl rfl) ?_;refine kw1 kO kc0 kc0 ?_;refine ZbF (o:=44) rfl rfl (by simp) ?_;rw[uD (by simp),Zc8,<-hN,gR];refine yM λ k hk=>?_
    rw[if_pos (uZ.1 hk),ZdP,<-hN,ZhY];rfl
end Go.Proofs.YtjjbhjnpeenbkaaGreatDoor
