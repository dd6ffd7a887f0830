/- Rank, Place: the walks. -/
import Derived.Test.YtjjbhjnpeenbkaaGreatDoorG
set_option linter.unusedSimpArgs false
set_option linter.unusedVariables false
set_option maxHeartbeats 16000000
namespace Go.Proofs.YtjjbhjnpeenbkaaGreatDoor
open Go Go.PS Go.Proofs
set_option maxRecDepth 100000
attribute [local irreducible] Zad wpG Zaa Zah
theorem Zdy {a:Lv}(h:Zaw a=true):a.2.1.length<=256/\tot a.2.1<=512:=by
 have:=Zuq h;exact ZsU (by rw[this])
theorem ZmJ (l:List Arc)(hn:l.length<=1000000):Zaa Tryz.prog 210 [Zal l] (Zal l):=by
 rcases jC (l=[])with rfl|hl
 ·refine kE Tryz.func210 ?_;intro hat B X w0;refine kw1 kO kc0 kc0 ?_;refine Zkb 4 rfl ?_;intro b;cases b
  ·refine kw1 (kow (Nat.beq 5) (b:=true)) kc0 kc0 ?_;exact ZdB rfl
  ·refine kw1 kO kc0 kc0 ?_;exact ZdB rfl
 ·have he:(l.map ZaX).isEmpty=false:=by simpa using hl
  have hpos:0<l.length:=Ae.2 hl;refine kE Tryz.func210 ?_;intro hat B X w0;refine kw1 (kow (Nat.beq 5) (b:=true)) (kc2 he @Zan) kc0 ?_;exact Zch (o:=7) rfl rfl (by simp) (uE (by simp))
theorem Ziz (l:List Int)(hn:l.length<=1000000):Zaa Tryz.prog 214 [Zab l] (Zab l):=by
 rcases jC (l=[])with rfl|hl
 ·refine kE Tryz.func214 ?_;intro hat B X w0;refine kw1 kO kc0 kc0 ?_;refine Zkb 4 rfl ?_;intro b;cases b
  ·refine kw1 (kow (Nat.beq 5) (b:=true)) kc0 kc0 ?_;exact ZdB rfl
  ·refine kw1 kO kc0 kc0 ?_;exact ZdB rfl
 ·have he:(l.map D.int).isEmpty=false:=by simpa using hl
  have hpos:0<l.length:=Ae.2 hl;refine kE Tryz.func214 ?_;intro hat B X w0;refine kw1 (kow (Nat.beq 5) (b:=true)) (kc2 he @Zan) kc0 ?_;exact Zch (o:=7) rfl rfl (by simp) (uE (by simp))
theorem Zk1 (l:List (List Int))(hn:l.length<=1000)(hl:∀y,y∈l->y.length<=1000000):Zah Tryz.prog 247 [.d (Zag l)] [(2000, .dead)] (.ref 2000 1 0 l.length l.length) [(2000, .row 1 (l.map Zab))]:=by
 refine kM Tryz.func247 ?_;intro B X w0;refine kw1 kO kc0 kc0 ?_;refine Zaq _ (Zqx 7 l.length rfl) ?_;refine Zae (λ(k:Nat)=>k<=l.length) (λ k=>[(0, .d (Zag l)),(3, .ref 7 1 0 l.length l.length),(9, .int l.length),(10, .int k)]) (λ k=>[(7, .row 1 ((l.take k).map Zab++List.replicate (l.length-k) (.sl [])))]) (λ k=>l.length-k) 0 ?_ ?_ ?_
 ·exact uG _
 ·exact kN (kc4 @yU.{0} @yE.{0,0} @gL.{0} @zN) []
 ·intro k hk;rcases uC k l.length with hlt|hge
  ·obtain⟨p,hp⟩:=Zac hlt;have hcp:=Ziz p (hl p (uA hp));have hst:((l.take k).map Zab++List.replicate (l.length-k) (D.sl [])).set k (Zab p)=(l.take (k+1)).map Zab++List.replicate (l.length-(k+1)) (D.sl []):=by
    have hlk:((l.take k).map Zab).length=k:=by rw[uD,yF];omega
    have e:l.length-k=(l.length-(k+1))+1:=by omega
    rw[Cg,hlk,if_neg (by omega),jF,e,zL,kJ,ZaA hp,uR,qJ];rfl
   have hLn:((l.take k).map Zab++List.replicate (l.length-k) (D.sl [])).length=l.length:=by
    rw[uH,uD,yF,qX];omega
   have hgk:((l.take k).map Zab++List.replicate (l.length-k) (D.sl []))[k]? =some (D.sl []):=by
    rw[qG (by rw[uD,yF];omega),uD,yF,jM (by omega),jF,qT,if_pos (by omega)]
   refine kw1 kO (kc3 hp hLn hgk) (kc1 hcp) ?_;refine⟨k+1,?_,kN (kc1 hst) [],?_⟩
   ·omega
   ·omega
  ·have:k=l.length:=by omega
   subst this
   try dsimp only
   rw[yH,jF,Ch,yT];refine kw1 kP kc0 kc0 ?_;refine kR kc0 [(2000,7)] [(2, .ref 2000 1 0 _ _)] [(2000, .row 1 _)] ?_;refine Za0 ?_;exact⟨rfl,uO.2 ⟨rfl,yC _⟩⟩
theorem Zp3 {r:List Int}{l:List Arc}{k:Nat}{a:Arc}(ha:l[k]? =some a):∀e,k<e->e<=l.length->(Zbe r l e)[k]? =some (ZaF r (ZaE r l k).length a)
 |0,h,_=>by omega
 |e+1,h,he=>by
  have hl:=Zk0 r l e (by omega);rw[Zbe,Za5];rw[Zbe]at hl;rcases qB.1 h with h1|rfl
  ·rw[qW (by rw[hl];exact h1)];exact Zp3 ha e h1 (by omega)
  ·rw[qG (by rw[hl];exact uI _),hl,jF,Zjp,ha];rfl
theorem ZiL {a:Lv}(h:Zaw a=true):a.2.2.1.length<=800/\a.2.2.2.length<=256/\∀y,y∈a.2.2.2->y.length<=260:=by
 obtain⟨b,hm,hr⟩:=Zie h;have h1:a.2.2.1=ZaU (Zbb a) (Za1 a).2 (Za1 a).2.length:=gB (λ x:Lv=>x.2.2.1) hm;have h2:a.2.2.2=Zbe (Zbb a) (Za1 a).2 (Za1 a).2.length:=gB (λ x:Lv=>x.2.2.2) hm;have h3:=ZkN b.gap (Za1 a).2.length (uI _);have h4:=Zk0 (Zbb a) (Za1 a).2 (Za1 a).2.length (uI _);have h5:=b.all_len;have h6:=(ZjB b.gok).2.2.1;rw[<-h1]at h3;rw[<-h2]at h4;refine⟨by omega,by omega,λ y hy=>?_⟩;obtain⟨k,hk⟩:=yW hy;have hkl:=(uB.1 hk).1;obtain⟨x,hx⟩:=Zac (l:=(Za1 a).2) (k:=k) (by omega);rw[h2,Zp3 hx _ (by omega) (uI _),yM]at hk;rw[<-hk,ZmH,ZaH];have g1:=b.rk x.1.toNat;have g2:=b.rk x.2.toNat;have g3:=b.ends hx;rw[show((x.1.toNat:Nat):Int)=x.1 by omega]at g1;rw[show((x.2.toNat:Nat):Int)=x.2 by omega]at g2;omega
def Ze3 (a:Lv)(i:Int)(o:List Int):Lv×Int:=
 if Zaw a=false then(lv0,1)else if i<0\/(a.2.1.length:Int)<=i then(lv0,3)
 else if ZaK o≠ZaK ((a.2.1[i.toNat]?).getD [])then(lv0,6)else((a.1,a.2.1.set i.toNat o,a.2.2.1,a.2.2.2),0)
theorem Zpd (a:Lv)(i:Int)(o:List Int)(hw:wide a)(ho:o.length<=600):Zaa Tryz.prog 216 [lvD a, .int i,Zab o] (.tup [lvD (Ze3 a i o).1, .int (Ze3 a i o).2]):=by
 have hv:=ZhD a hw;rw[Ze3];rcases h:Zaw a with _|_<;>rw[h]at hv
 ·rw[if_pos rfl];refine kE Tryz.func216 ?_;intro hat B X w0;refine kw1 kO kc0 (kc1 hv) ?_;refine⟨_,rfl,⟨_,_,_,_,rfl,?_⟩,Zaf ?_,trivial⟩
  ·simp(disch:=omega) only[go_sem,simprocAttr,toD];rfl
  ·rfl
 ·rw[if_neg (by decide)];obtain⟨t1,t2⟩:=Zdy h;by_cases hi:i<0\/(a.2.1.length:Int)<=i
  ·rw[if_pos hi];obtain⟨n,ls,ar,cs⟩:=a;dsimp only at hi t1;refine kE Tryz.func216 ?_;intro hat B X w0;refine kw kO kc0 (kc1 hv) ?_
   repeat' first|exact True.intro|refine Bn.mk ?_ ?_|intro hc
   all_goals
    refine⟨_,rfl,⟨_,_,_,_,rfl,?_⟩,Zaf ?_,trivial⟩
    ·simp(disch:=omega) only[go_sem,simprocAttr,toD];rfl
    ·rfl
  ·rw[if_neg hi];obtain⟨y,hy⟩:=Zac (l:=a.2.1) (k:=i.toNat) (by omega);have hyl:=Zde (uA hy);rw[hy,yK];have hv1:=Zme o;have hv2:=Zme y;have hs1:=Zmd o (by omega);have hs2:=Zmd y (by omega);have he:=Zqy (ZaK o) (ZaK y);by_cases hso:ZaK o=ZaK y
   ·rw[if_neg (by simpa using hso)];rw[yB hso]at he;have hcl:=Zk1 a.2.1 (by omega) (λ y hy=>by have:=Zde hy;omega);have hbd:a.2.2.1.length<=1000000/\a.2.2.2.length<=1000/\∀y,y∈a.2.2.2->y.length<=1000000:=by
     obtain⟨s1,s2,s3⟩:=ZiL h;exact⟨by omega,by omega,λ y hy=>by have:=s3 y hy;omega⟩
    have hca:=ZmJ a.2.2.1 hbd.1;have hcc:=Zk1 a.2.2.2 hbd.2.1 hbd.2.2;have hco:=Ziz o (by omega);obtain⟨n,ls,ar,cs⟩:=a;dsimp only at hi t1 hy hcl hca hcc;refine kE Tryz.func216 ?_;intro hat B X w0
    repeat' first|refine ZbH rfl ?_|refine Za0 ?_|refine wR ?_|(refine rc (hv) rfl ?_ ?_;(· first|rfl|simp(disch:=omega) only[go_sem,simprocAttr,qE,hy]))|(refine rc (hv1) rfl ?_ ?_;(· first|rfl|simp(disch:=omega) only[go_sem,simprocAttr,qE,hy]))|(refine rc (hv2) rfl ?_ ?_;(· first|rfl|simp(disch:=omega) only[go_sem,simprocAttr,qE,hy]))|(refine rc (hs1) rfl ?_ ?_;(· first|rfl|simp(disch:=omega) only[go_sem,simprocAttr,qE,hy]))|(refine rc (hs2) rfl ?_ ?_;(· first|rfl|simp(disch:=omega) only[go_sem,simprocAttr,qE,hy]))|(refine rc (he) rfl ?_ ?_;(· first|rfl|simp(disch:=omega) only[go_sem,simprocAttr,qE,hy]))|refine rcM [(2000,43)] (hcl) rfl ?_|refine rcM [(2000,49)] (hcc) rfl ?_|(refine rc (hca) rfl ?_ ?_;(· first|rfl|simp(disch:=omega) only[go_sem,simprocAttr,qE,hy]))|(refine rc (hco) rfl ?_ ?_;(· first|rfl|simp(disch:=omega) only[go_sem,simprocAttr,qE,hy]))|(refine ZbM rfl rfl (λ hc=>?_) (λ hc=>?_)<;>try simp only[hcL]at hc)|(refine ZbL _ rfl rfl (λ hc=>?_) (λ hc=>?_)<;>(try simp only[hcL]at hc)<;>try omega)|simp(disch:=omega) only[go_sem,simprocAttr,qE,hy]|apply And.intro|omega|decide+kernel
    refine⟨_,rfl,⟨_,_,_,_,rfl,?_⟩,Zaf rfl,trivial⟩;simp(disch:=omega) only[go_sem,simprocAttr,toD,uD,yJ,uI,qN];rw[uE (by rw[yJ,uD];exact uI _),uE (by rw[uD];exact uI _)];simp only[lvD,Zag,yR]
   ·rw[if_pos (by simpa using hso)];rw[uU hso]at he;obtain⟨n,ls,ar,cs⟩:=a;dsimp only at hi t1 hy;refine kE Tryz.func216 ?_;intro hat B X w0;refine kw1 kO (kc1 hy) (kc6 hv hv1 hv2 hs1 hs2 he) ?_;refine⟨_,rfl,⟨_,_,_,_,rfl,?_⟩,Zaf ?_,trivial⟩
    ·simp(disch:=omega) only[go_sem,simprocAttr,toD];rfl
    ·rfl
theorem Zup {a b:Lv}(h:ZcT a=ZcT b):Zaw a=Zaw b:=by
 obtain⟨n,ls,ar,cs⟩:=a;obtain⟨n',ls',ar',cs'⟩:=b;simp only[ZcT,Bl]at h;obtain⟨rfl,h,rfl,rfl⟩:=h;have hlay:∀v,ZaS ls v=ZaS ls' v:=λ v=>by rw[<-Zow,h,Zow]
 have hlen:ls.length=ls'.length:=by rw[<-uD (f:=ZaK),h,uD]
 simp only[Zaw,Zfo,Zgp,Za1,Zbb,ZhX,ZcT,hlay,hlen,h];have e:∀w:Nat->Bool,w=w:=λ _=>rfl
 congr 3
 ·congr 1
  congr 1
  funext v
  simp only[ZhX,hlay]
theorem Zs8 {a:Lv}{i:Nat}{o y:List Int}(hy:a.2.1[i]? =some y)(h:ZaK o=ZaK y):ZcT (a.1,a.2.1.set i o,a.2.2.1,a.2.2.2)=ZcT a:=by
 simp only[ZcT,yR,h]
 congr 2
 refine yS λ u=>?_
 rw[yX];split
 ·subst i;rw[uJ,hy];split
  ·rfl
  ·rename_i hn;rw[uD]at hn;exact absurd (uB.1 hy).1 hn
 ·rfl
theorem ZBr {a:Lv}{i:Int}{o:List Int}(h:(Ze3 a i o).2=0):Zaw (Ze3 a i o).1=true:=by
 rw[Ze3]at h|-;split at h
 ·cases h
 ·rename_i h1;split at h
  ·cases h
  ·rename_i h2;split at h
   ·cases h
   ·rename_i h3;rw[if_neg h1,if_neg h2,if_neg h3];obtain⟨y,hy⟩:=Zac (l:=a.2.1) (k:=i.toNat) (by omega);rw[hy,yK]at h3;rw[Zup (Zs8 hy (Decidable.not_not.1 h3))];simpa using h1
theorem ZBs {a:Lv}{i:Int}{o:List Int}(hw:wide a)(ho:o.length<=600):wide (Ze3 a i o).1:=by
 rw[Ze3];split
 ·intro y hy;cases hy
 ·split
  ·intro y hy;cases hy
  ·rename_i h2;split
   ·intro y hy;cases hy
   ·rename_i h3;intro y hy;rcases jY hy with hy|rfl
    ·exact hw y hy
    ·obtain⟨z,hz⟩:=Zac (l:=a.2.1) (k:=i.toNat) (by omega);rw[hz,yK]at h3;have e:=gB List.length (Decidable.not_not.1 h3);rw[(Zhu y).length_eq,(Zhu z).length_eq]at e;rw[e];exact hw z (uA hz)
end Go.Proofs.YtjjbhjnpeenbkaaGreatDoor
namespace Go.Proofs.YtjjbhjnpeenbkaaGreatDoor
open Go Go.PS Go.Proofs
set_option maxRecDepth 100000
attribute [local irreducible] Zad wpG Zaa Zah
theorem Zmr {l m:List Int}{n:Nat}(h:n<l.length):at0 (l++m) n=at0 l n:=by
 rw[at0,at0,uK,qW h]
theorem Zpm (r:List Int)(l:List Arc){e m:Nat}(h:e<=m):∃x,ZaE r l m=ZaE r l e++x:=by
 refine⟨((l.drop e).take (m-e)).flatMap λ a=>Zap r a (ZaH r a),?_⟩;rw[ZaE,ZaE,qJ,<-List.flatMap_append]
 congr 2
 obtain⟨k,rfl⟩:∃k,m=e+k:=⟨m-e,by omega⟩;rw[List.take_add,Bt]
theorem Zvi {r:List Int}{l:List Arc}{e:Nat}{a:Arc}(ha:l[e]? =some a):ZaU r l (e+1)=ZaU r l e++ZbX (ZaF r (ZaE r l e).length a) (ZaH r a+1):=by
 rw[ZaU,Za5,Zis,ha];rfl
theorem Zwn (r:List Int)(n0:Nat)(a:Arc):at0 (ZaF r n0 a) ((0:Nat):Int)=a.1:=rfl
theorem Zwp {r:List Int}{n0:Nat}{a:Arc}{j:Nat}(h:j<ZaH r a):at0 (ZaF r n0 a) ((j+1:Nat):Int)=((n0+j:Nat):Int):=by
 rw[ZaF,Zmr (by rw[ZhL];omega),at0,uK,ZcB,jO];simp[h]
theorem Zwo (r:List Int)(n0:Nat)(a:Arc):at0 (ZaF r n0 a) ((ZaH r a+1:Nat):Int)=a.2:=by
 rw[at0,uK,ZaF,qG (by rw[ZhL];exact uI _),ZhL,jF];rfl
namespace Built
variable {g:Gr}{r:List Int}
theorem chain_at (b:Built g r){e j:Nat}{a:Arc}(ha:g.2[e]? =some a)(hj:j<=ZaH r a+1):
  0<=at0 (ZaF r (ZaE r g.2 e).length a) j/\at0 (ZaF r (ZaE r g.2 e).length a) j<(ZaE r g.2 g.2.length).length/\at0 (ZaE r g.2 g.2.length) (at0 (ZaF r (ZaE r g.2 e).length a) j)=at0 r a.1+j:=by
 have hel:=(uB.1 ha).1;have he:=b.ends ha;have hg:=b.gap e a ha;have hl:=b.len;have hge:=b.all_ge;obtain⟨x,hx⟩:=Zpm r g.2 (show 0<=g.2.length by omega);have h0:ZaE r g.2 0=r:=by simp[ZaE]
 rw[h0]at hx;have hpre:∀v:Int,0<=v->v<g.1->at0 (ZaE r g.2 g.2.length) v=at0 r v:=λ v h1 h2=>by
  obtain⟨n,rfl⟩:∃n:Nat,v=n:=⟨v.toNat,by omega⟩;rw[hx,Zmr (by omega)]
 rcases qU j with rfl|h1
 ·rw[Zwn,hpre _ he.1 he.2.1];omega
 ·obtain⟨j,rfl⟩:∃i,j=i+1:=⟨j-1,by omega⟩;rcases uC j (ZaH r a)with h2|h2
  ·rw[Zwp h2];obtain⟨y,hy⟩:=Zpm r g.2 (show e+1<=g.2.length by omega);rw[Zin ha]at hy;have hlen:=gB List.length hy;simp only[uH,Zg8]at hlen;refine⟨by omega,by omega,?_⟩;rw[hy,Zmr (by rw[uH,Zg8];omega),at0,uK,qG (by omega),Bt];simp only[Zap,uJ,qC h2,yY,yK];omega
  ·have hj2:j=ZaH r a:=by omega
   subst hj2;rw[Zwo,hpre _ he.2.2.1 he.2.2.2];have hgn:(ZaH r a:Int)=at0 r a.2-at0 r a.1-1:=by rw[ZaH];omega
   omega
end Built
end Go.Proofs.YtjjbhjnpeenbkaaGreatDoor
namespace Go.Proofs.YtjjbhjnpeenbkaaGreatDoor
open Go Go.PS Go.Proofs
set_option maxRecDepth 100000
attribute [local irreducible] Zad wpG Zaa Zah
theorem ZxH (m:List (Int×Int))(k v u:Int):Zbi (Zd9 m k v) u=if k=u then v else Zbi m u:=by
 induction m with
 |nil=>simp only[Zd9,Zbi]
 |cons p m ih=>
  obtain⟨a,b⟩:=p;simp only[Zd9];by_cases h:a=k
  ·rw[if_pos h];simp only[Zbi];by_cases h2:k=u
   ·rw[if_pos h2,if_pos h2]
   ·rw[if_neg h2,if_neg h2,if_neg (by rw[h];exact h2)]
  ·rw[if_neg h];simp only[Zbi,ih];by_cases h2:a=u
   ·rw[if_pos h2,if_neg (by omega)];simp[h2]
   ·rw[if_neg h2];simp[h2]
def Ze4 (m:List (Int×Int))(y:List Int)(g:Nat->Int):Nat->List (Int×Int)
 |0=>m
 |k+1=>Zd9 (Ze4 m y g k) (at0 y k) (g k)
def Zcz (h:Nat->Nat->Int)(ls:List (List Int)):Nat->List (Int×Int)
 |0=>[]
 |i+1=>Ze4 (Zcz h ls i) ((ls[i]?).getD []) (h i) (((ls[i]?).getD []).length)
def plM (ls:List (List Int)):List (Int×Int):=Zcz (λ _ k=>k) ls ls.length
def lyM (ls:List (List Int)):List (Int×Int):=Zcz (λ i _=>i) ls ls.length
theorem ZjD :∀{y:List Int} {k:Nat} {v:Int},y.Nodup->y[k]? =some v->y.idxOf v=k
 |[],k,v,_,h=>by simp at h
 |a::y,0,v,_,h=>by simp at h;subst h;simp
 |a::y,k+1,v,hn,h=>by
  have hn2:=yV.1 hn;have h2:y[k]? =some v:=by simpa using h
  have hne:a≠v:=λ e=>hn2.1 (e▸uA h2)
  have ih:=ZjD hn2.2 h2;have hb:(a==v)=false:=by simpa using hne
  simp[List.idxOf_cons,hb,ih]
theorem ZqW (m:List (Int×Int))(y:List Int)(g:Nat->Int)(u:Int):∀k,k<=y.length->y.Nodup->Zbi (Ze4 m y g k) u=if u∈y.take k then g (y.idxOf u)else Zbi m u
 |0,_,_=>by simp[Ze4]
 |k+1,h,hn=>by
  have hk:=at0_at (r:=y) (i:=k) (by omega);have hi:y.idxOf (at0 y k)=k:=ZjD hn hk;rw[Ze4,ZxH,ZqW m y g u k (by omega) hn,ZaA hk];simp only[yO,uT];by_cases c:at0 y k=u
  ·rw[if_pos c,if_pos (.inr c.symm),<-c,hi]
  ·rw[if_neg c];by_cases c2:u∈y.take k
   ·rw[if_pos c2,if_pos (.inl c2)]
   ·rw[if_neg c2,if_neg (by rintro(h1|h1);exact c2 h1;exact c h1.symm)]
theorem Zng (h:Nat->Nat->Int)(ls:List (List Int))(hn:ls.flatten.Nodup)(u:Int):∀i,i<=ls.length->(∀k y,k<i->ls[k]? =some y->u∈y->Zbi (Zcz h ls i) u=h k (y.idxOf u))/\(u∉(ls.take i).flatten->Zbi (Zcz h ls i) u=0)
 |0,_=>⟨λ k y hk=>by omega,λ _=>rfl⟩
 |i+1,hi=>by
  obtain⟨y,hy⟩:=Zac (l:=ls) (k:=i) (by omega);obtain⟨g1,g2⟩:=Zng h ls hn u i (by omega);have hsub:∀z,z∈ls->z.Nodup:=λ z hz=>(jK.1 hn).1 z hz
  have hyn:=hsub y (uA hy);have hr:=ZqW (Zcz h ls i) y (h i) u y.length (uI _) hyn;rw[yH]at hr;have ha:Zcz h ls (i+1)=Ze4 (Zcz h ls i) y (h i) y.length:=by rw[Zcz,hy];rfl
  rw[ha,hr];refine⟨λ k z hk hz hu=>?_,λ hu=>?_⟩
  ·rcases qB.1 hk with h1|rfl
   ·have hd:=gM.1 (jK.1 hn).2 k i (uB.1 hz).1 (uB.1 hy).1 h1;have e1:=(uB.1 hz).2;have e2:=(uB.1 hy).2;rw[e1,e2]at hd;rw[if_neg (λ hu2=>hd u hu u hu2 rfl)];exact g1 k z h1 hz hu
   ·rw[hy]at hz;cases hz;rw[if_pos hu]
  ·rw[ZaA hy,Ad,yO]at hu;rw[if_neg (λ hu2=>hu (.inr (by simpa using hu2)))];exact g2 λ hu2=>hu (.inl hu2)
theorem ZAs (a:Lv)(hn:a.2.1.length<=1000)(hl:∀y,y∈a.2.1->y.length<=1000):Zah Tryz.prog 251 [.d (lvD a)] [(2000, .dead),(2001, .dead)] (.tup [.mp 2000, .mp 2001]) [(2000, .imap (plM a.2.1)),(2001, .imap (lyM a.2.1))]:=by
 obtain⟨n,ls,ar,cs⟩:=a;dsimp only at hn hl;refine kM Tryz.func251 ?_;intro B X w0;refine kw1 kO kc0 kc0 ?_;refine Zae (λ(i:Nat)=>i<=ls.length) (λ i=>[(1, .ptr 1 0 0 0),(2, .mp 8),(3, .mp 9),(11, .d (Zag ls)),(12, .int ls.length),(13, .int i)]) (λ i=>[(1, .cells [.int n, .d (Zag ls), .d (Zal ar), .d (Zag cs)]),(8, .imap (Zcz (λ _ k=>k) ls i)),(9, .imap (Zcz (λ i _=>i) ls i))]) (λ i=>ls.length-i) 0 ?_ ?_ ?_
 ·exact uG _
 ·exact kN (kc1 @Zcz.eq_1) []
 ·intro i hi;rcases uC i ls.length with hlt|hge
  ·obtain⟨y,hy⟩:=Zac hlt;have hyl:=hl y (uA hy);have e1:Zcz (λ _ k=>(k:Int)) ls (i+1)=Ze4 (Zcz (λ _ k=>(k:Int)) ls i) y (λ k=>(k:Int)) y.length:=by rw[Zcz,hy];rfl
   have e2:Zcz (λ i _=>(i:Int)) ls (i+1)=Ze4 (Zcz (λ i _=>(i:Int)) ls i) y (λ _=>(i:Int)) y.length:=by rw[Zcz,hy];rfl
   refine kw1 kO (kc1 hy) kc0 ?_;refine Zae (λ(k:Nat)=>k<=y.length) (λ k=>[(1, .ptr 1 0 0 0),(2, .mp 8),(3, .mp 9),(4, .int i),(11, .d (Zag ls)),(12, .int ls.length),(13, .int i),(18, .d (Zab y)),(19, .int y.length),(20, .int k)]) (λ k=>[(1, .cells [.int n, .d (Zag ls), .d (Zal ar), .d (Zag cs)]),(8, .imap (Ze4 (Zcz (λ _ k=>k) ls i) y (λ k=>(k:Int)) k)),(9, .imap (Ze4 (Zcz (λ i _=>i) ls i) y (λ _=>(i:Int)) k))]) (λ k=>y.length-k) 0 ?_ ?_ ?_
   ·exact uG _
   ·exact kN (kc1 @Ze4.eq_1) []
   ·intro k hk;rcases uC k y.length with hlk|hgk
    ·have gy:=at0_at hlk;refine kw1 kO (kc1 gy) kc0 ?_;refine⟨k+1,?_,kN (kc1 @Ze4.eq_1) [],?_⟩
     ·omega
     ·omega
    ·have:k=y.length:=by omega
     subst this;refine kw1 kO kc0 kc0 ?_;refine⟨i+1,?_,kN (kc2 e1 e2) [],?_⟩
     ·omega
     ·omega
  ·have:i=ls.length:=by omega
   subst this;refine kw1 kP kc0 kc0 ?_;refine kR kc0 [(2000,8),(2001,9)] [(2, .mp 2000),(3, .mp 2001)] [(2000, .imap (plM ls)),(2001, .imap (lyM ls))] ?_;refine Za0 ?_;exact⟨⟨_,rfl,rfl,rfl,trivial⟩,uO.2 ⟨rfl,uO.2 ⟨rfl,yC _⟩⟩⟩
def Zcr (ls:List (List Int))(v:Int)(r p:Nat):Prop:=∃y,ls[r]? =some y/\y[p]? =some v
theorem ZrF {ls:List (List Int)}{v:Int}(h:v∈ls.flatten):∃r p,Zcr ls v r p:=by
 obtain⟨y,hy,hv⟩:=Ah.1 h;obtain⟨r,hr⟩:=yW hy;obtain⟨p,hp⟩:=yW hv;exact⟨r,p,y,hr,hp⟩
theorem Zcr.mem {ls:List (List Int)}{v:Int}{r p:Nat}(h:Zcr ls v r p):v∈ls.flatten:=by
 obtain⟨y,h1,h2⟩:=h;exact Ah.2 ⟨y,uA h1,uA h2⟩
theorem Zcr.idx {ls:List (List Int)}(hn:ls.flatten.Nodup){v:Int}{r p:Nat}{y:List Int}(hy:ls[r]? =some y)(h:y[p]? =some v):y.idxOf v=p:=by
 have hyn:=(jK.1 hn).1 y (uA hy);exact ZjD hyn h
theorem Zcr.layer {ls:List (List Int)}(hn:ls.flatten.Nodup){v:Int}{r p r' p':Nat}(h:Zcr ls v r p)(h':Zcr ls v r' p'):r=r':=by
 obtain⟨y,h1,h2⟩:=h;obtain⟨z,h3,h4⟩:=h';have e1:=uB.1 h1;have e2:=uB.1 h3;have hp:=(jK.1 hn).2;rcases Ap r r' with h|h|h
 ·have:=gM.1 hp r r' e1.1 e2.1 h;rw[e1.2,e2.2]at this;exact absurd rfl (this v (uA h2) v (uA h4))
 ·exact h
 ·have:=gM.1 hp r' r e2.1 e1.1 h;rw[e1.2,e2.2]at this;exact absurd rfl (this v (uA h4) v (uA h2))
theorem Zcr.ly {ls:List (List Int)}(hn:ls.flatten.Nodup){v:Int}{r p:Nat}(h:Zcr ls v r p):Zbi (lyM ls) v=r:=by
 obtain⟨y,h1,h2⟩:=h;exact(Zng _ ls hn v ls.length (uI _)).1 r y (uB.1 h1).1 h1 (uA h2)
theorem Zcr.pl {ls:List (List Int)}(hn:ls.flatten.Nodup){v:Int}{r p:Nat}(h:Zcr ls v r p):Zbi (plM ls) v=p:=by
 obtain⟨y,h1,h2⟩:=h;rw[plM,(Zng _ ls hn v ls.length (uI _)).1 r y (uB.1 h1).1 h1 (uA h2),Zcr.idx hn h1 h2]
theorem Zcr.lay {ls:List (List Int)}(hn:ls.flatten.Nodup){v:Int}{r p:Nat}(h:Zcr ls v r p):ZaS ls v=r:=by
 have h0:=Zgx.2 h.mem;have hd:=h;obtain⟨y,h1,h2⟩:=h;rw[ZaS]at h0|-;cases hf:ls.findIdx? (λ y=>y.any λ x=>decide (x=v))with
 |none=>rw[hf]at h0;exact absurd h0 (by decide)
 |some k=>
  have hk:=kQ.1 hf;obtain⟨hk1,hk2,_⟩:=hk;obtain⟨x,hx,hxv⟩:=gK.1 hk2;have:x=v:=by simpa using hxv
  subst this;obtain⟨p',hp'⟩:=yW hx;have:=Zcr.layer hn hd (⟨ls[k],uQ hk1,hp'⟩:Zcr ls x k p');rw[this];rfl
structure Joins (ls:List (List Int))(x:Arc)(r p q:Nat):Prop where
 up:Zcr ls x.1 r p
 dn:Zcr ls x.2 (r+1) q
theorem ZfC {a:Lv}(h:Zaw a=true):a.2.1.flatten.Nodup:=by
 obtain⟨_,_,hr⟩:=Zie h;obtain⟨_,_,hg,_⟩:=ZiW hr;exact(Zgs.1 hg).2
theorem ZoT {a:Lv}(h:Zaw a=true){k:Nat}{x:Arc}(hx:a.2.2.1[k]? =some x):∃r p q,Joins a.2.1 x r p q:=by
 have hn:=ZfC h;obtain⟨b,hm,hr⟩:=Zie h;obtain⟨_,_,hg,ho⟩:=ZiW hr;have har:a.2.2.1=ZaU (Zbb a) (Za1 a).2 (Za1 a).2.length:=gB (λ x:Lv=>x.2.2.1) hm
 have hmem:∀m,m<=(Za1 a).2.length->∀x,x∈ZaU (Zbb a) (Za1 a).2 m->∃e c j,(Za1 a).2[e]? =some c/\j<ZaH (Zbb a) c+1/\x=Zhb (ZaF (Zbb a) (ZaE (Zbb a) (Za1 a).2 e).length c) j:=by
  intro m
  induction m with
  |zero=>intro _ x hx;simp[ZaU,Za5]at hx
  |succ m ih=>
   intro hm x hx;obtain⟨c,hc⟩:=Zac (l:=(Za1 a).2) (k:=m) (by omega);rw[Zvi hc,yO]at hx;rcases hx with hx|hx
   ·exact ih (by omega) x hx
   ·simp only[ZbX,uP,yA]at hx;obtain⟨j,hj,rfl⟩:=hx;exact⟨m,c,j,hc,hj,rfl⟩
 obtain⟨e,c,j,hc,hj,rfl⟩:=hmem _ (uI _) x (har▸uA hx);obtain⟨x1,x2,x3⟩:=b.chain_at hc (j:=j) (by omega);obtain⟨y1,y2,y3⟩:=b.chain_at hc (j:=j+1) (by omega);rw[Zhb];generalize at0 (ZaF (Zbb a) (ZaE (Zbb a) (Za1 a).2 e).length c) j=u at x1 x2 x3|-;generalize at0 (ZaF (Zbb a) (ZaE (Zbb a) (Za1 a).2 e).length c) ((j+1:Nat):Int)=v at y1 y2 y3|-;have hlay:∀u:Int,0<=u->u<(ZaE (Zbb a) (Za1 a).2 (Za1 a).2.length).length->ZaS a.2.1 u=at0 (ZaE (Zbb a) (Za1 a).2 (Za1 a).2.length) u:=by
  intro u h0 h1;have hl:(ZaE (Zbb a) (Za1 a).2 (Za1 a).2.length).length=tot a.2.1:=by rw[ho,Ze6]
  obtain⟨n,rfl⟩:∃n:Nat,u=n:=⟨u.toNat,by omega⟩;have:=Zkh (c:=tot a.2.1) (v:=n) (by omega) a.2.1;rw[<-ho,at0_at (by omega),yM]at this;exact this.symm
 have e1:=hlay u x1 x2;have e2:=hlay v y1 y2;have hrk:=b.rk c.1.toNat;have hin:=b.ends hc;rw[show((c.1.toNat:Nat):Int)=c.1 by omega]at hrk;obtain⟨r,p,hl1⟩:=ZrF (Zgx.1 (show 0<=ZaS a.2.1 u by omega));obtain⟨r2,q,hl2⟩:=ZrF (Zgx.1 (show 0<=ZaS a.2.1 v by omega));have e3:=hl1.lay hn;have e4:=hl2.lay hn;have:r2=r+1:=by omega
 subst this;exact⟨r,p,q,hl1,hl2⟩
def ZeU (ls:List (List Int))(i f:Int)(p:Nat)(x:Arc):List Int:=
 if Zbi (lyM ls) x.1=i/\Zbi (lyM ls) x.2=f then(if Zbi (plM ls) x.1=p then[Zbi (plM ls) x.2]else[])
 else if Zbi (lyM ls) x.2=i/\Zbi (lyM ls) x.1=f then(if Zbi (plM ls) x.2=p then[Zbi (plM ls) x.1]else[])else[]
def ZdZ (ls:List (List Int))(ar:List Arc)(i f:Int)(k p:Nat):List Int:=(ar.take k).flatMap (ZeU ls i f p)
theorem Zqs {ls:List (List Int)}{ar:List Arc}{i f:Int}{k:Nat}{x:Arc}(hx:ar[k]? =some x)(p:Nat):ZdZ ls ar i f (k+1) p=ZdZ ls ar i f k p++ZeU ls i f p x:=by
 simp[ZdZ,ZaA hx]
theorem Zw1 (ls:List (List Int))(i f:Int)(p:Nat)(x:Arc):(ZeU ls i f p x).length<=1:=by
 unfold ZeU;split
 ·split<;>simp
 ·split
  ·split<;>simp
  ·simp
theorem ZiC (ls:List (List Int))(ar:List Arc)(i f:Int)(p:Nat):∀k,(ZdZ ls ar i f k p).length<=k
 |0=>by simp[ZdZ]
 |k+1=>by
  have ih:=ZiC ls ar i f p k;rcases uC k ar.length with h|h
  ·obtain⟨x,hx⟩:=Zac h;have:=Zw1 ls i f p x;rw[Zqs hx,uH];omega
  ·rw[ZdZ,uE (by omega)];rw[ZdZ,uE (by omega)]at ih;omega
def Zbt (ls:List (List Int))(ar:List Arc)(i f:Int)(n:Nat):List (List Int):=(List.range n).map (ZdZ ls ar i f ar.length)
theorem Zw2 (a:Lv)(i:Nat)(f:Int)(y:List Int)(h:Zaw a=true)(hy:a.2.1[i]? =some y):Zaa Tryz.prog 221 [lvD a, .int i, .int f] (Zag (Zbt a.2.1 a.2.2.1 i f y.length)):=by
 have hn:=ZfC h;have hj:=λ k x hx=>ZoT h (k:=k) (x:=x) hx
 obtain⟨s1,s2,s3⟩:=ZiL h;obtain⟨t1,t2⟩:=Zdy h;have hp:=ZAs a (by omega) (λ y hy=>by have:=Zde hy;omega);have hyl:=Zde (uA hy);have hil:i<a.2.1.length:=(uB.1 hy).1;obtain⟨n,ls,ar,cs⟩:=a;dsimp only at*;obtain⟨N,hN⟩:∃N,N=y.length:=⟨_,rfl⟩;rw[<-hN]at hyl|-;refine kE Tryz.func221 ?_;intro hat B X w0;refine kw1 kO (kc2 hy hN.symm) (kc1 (kmc [(2000,914),(2001,915)] hp)) ?_;refine Zaq _ (Zju 1 23 1 N rfl (λ i hi=>by simp(disch:=omega) only[go_sem,simprocAttr,ZjZ,Zek]) (by decide) (by decide)) ?_;refine Ze2 (λ(k:Nat)=>k<=ar.length) (λ k=>[(1, .int i),(2, .int f),(3, .ptr 3 0 0 0),(7, .mp 914),(8, .mp 915),(9, .ref 23 1 0 N N),(25, .d (Zal ar)),(26, .int ar.length),(27, .int k)]) (λ k=>[⟨1,23,1,N,λ p=>(ZdZ ls ar i f k p).map D.int⟩]) (λ k=>[(3, .cells [.int n, .d (Zag ls), .d (Zal ar), .d (Zag cs)]),(914, .imap (plM ls)),(915, .imap (lyM ls))]) (λ k=>ar.length-k) 0 ?_ ?_ ?_
 ·exact uG _
 ·refine kF kc0 [] [] ?_;exact kT0 (kc3 @ZdZ.eq_1 @yU.{0} @Bb.{0,0})
 ·intro k hk;rcases uC k ar.length with hlt|hge
  ·obtain⟨x,hx⟩:=Zac hlt;obtain⟨r,p,q,hup,hdn⟩:=hj k x hx;have l1:=hup.ly hn;have l2:=hdn.ly hn;have p1:=hup.pl hn;have p2:=hdn.pl hn;have hst:=Zqs (ls:=ls) (i:=i) (f:=f) hx;by_cases c1:r=i/\((r+1:Nat):Int)=f
   ·obtain⟨rfl,c2⟩:=c1;have hpN:p<N:=by
     obtain⟨z,z1,z2⟩:=hup;rw[hy]at z1;cases z1;rw[hN];exact(uB.1 z2).1
    have he:∀p',ZeU ls r f p' x=if p'=p then[(q:Int)]else[]:=λ p'=>by
     rw[ZeU,l1,l2,p1,p2,if_pos ⟨rfl,c2⟩];by_cases c:p'=p
     ·rw[if_pos (by omega),if_pos c]
     ·rw[if_neg (by omega),if_neg c]
    have hel:=ZiC ls ar r f p k;refine Zaq _ (ZfT _ _ [3,914,915,23] 23 p 900 1 1 N (by first|rfl|(simp(disch:=omega) only[go_sem,simprocAttr];done)|(simp(disch:=omega) only[go_sem,simprocAttr];rfl)) (by first|(simp(disch:=omega) only[go_sem,simprocAttr];done)|(simp(disch:=omega) only[go_sem,simprocAttr];rfl)) (by first|(simp(disch:=omega) only[go_sem,simprocAttr];done)|(simp(disch:=omega) only[go_sem,simprocAttr];rfl)) (λ i hi hne=>by simp(disch:=omega) only[go_sem,simprocAttr,hne];(repeat' split)<;>exact .ref _ _ _ _ _ ⟨by simp(disch:=omega) only[go_sem,simprocAttr,hne],by simp(disch:=omega) only[go_sem,simprocAttr,hne]⟩) (by(repeat' first|refine ZfI ?_|exact ZfJ (ids:=[3,914,915,23]) rfl rfl (uY rfl)|refine ZfH ?_|refine ZfK ?_|refine ZfF ?_|refine ZfL ?_|refine ZfM ?_|refine ZfG (by dsimp only;omega) (by dsimp only;omega) (by omega) (by omega) (uY rfl) ?_);done) rfl rfl rfl) ?_;refine kw1 kO (kc8 hx l1 l2 p1 p2 c2 @yH.{0} @Zan) kc0 ?_;refine⟨k+1,?_,kF kc0 [(fid 1 p,63)] [] ?_,?_⟩
    ·omega
    ·exact kT1 (kc8 hst he @uR.{0,0} @uH.{0} @uD.{0,0} @uX.{0} @uW.{0} (kc2 @yT.{0} @Zan)) p
    ·omega
   ·by_cases c2:r+1=i/\(r:Int)=f
    ·obtain⟨c2,c3⟩:=c2;have c4:¬(r:Int)=i:=by omega
     have c5:((r+1:Nat):Int)=i:=by omega
     have hqN:q<N:=by
      obtain⟨z,z1,z2⟩:=hdn;rw[c2,hy]at z1;cases z1;rw[hN];exact(uB.1 z2).1
     have he:∀p',ZeU ls i f p' x=if p'=q then[(p:Int)]else[]:=λ p'=>by
      rw[ZeU,l1,l2,p1,p2,if_neg (λ h=>c4 h.1),if_pos ⟨c5,c3⟩];by_cases c:p'=q
      ·rw[if_pos (by omega),if_pos c]
      ·rw[if_neg (by omega),if_neg c]
     have hel:=ZiC ls ar i f q k;refine Zaq _ (ZfT _ _ [3,914,915,23] 23 q 900 1 1 N (by first|rfl|(simp(disch:=omega) only[go_sem,simprocAttr];done)|(simp(disch:=omega) only[go_sem,simprocAttr];rfl)) (by first|(simp(disch:=omega) only[go_sem,simprocAttr];done)|(simp(disch:=omega) only[go_sem,simprocAttr];rfl)) (by first|(simp(disch:=omega) only[go_sem,simprocAttr];done)|(simp(disch:=omega) only[go_sem,simprocAttr];rfl)) (λ i hi hne=>by simp(disch:=omega) only[go_sem,simprocAttr,hne];(repeat' split)<;>exact .ref _ _ _ _ _ ⟨by simp(disch:=omega) only[go_sem,simprocAttr,hne],by simp(disch:=omega) only[go_sem,simprocAttr,hne]⟩) (by(repeat' first|refine ZfI ?_|exact ZfJ (ids:=[3,914,915,23]) rfl rfl (uY rfl)|refine ZfH ?_|refine ZfK ?_|refine ZfF ?_|refine ZfL ?_|refine ZfM ?_|refine ZfG (by dsimp only;omega) (by dsimp only;omega) (by omega) (by omega) (uY rfl) ?_);done) rfl rfl rfl) ?_;refine kw1 kO (kc8 hx l1 l2 p1 p2 c3 c4 (kc3 c5 @yH.{0} @Zan)) kc0 ?_;refine⟨k+1,?_,kF kc0 [(fid 1 q,97)] [] ?_,?_⟩
     ·omega
     ·exact kT1 (kc8 hst he @uR.{0,0} @uH.{0} @uD.{0,0} @uX.{0} @uW.{0} (kc2 @yT.{0} @Zan)) q
     ·omega
    ·have he:∀p',ZeU ls i f p' x=[]:=λ p'=>by
      rw[ZeU,l1,l2,p1,p2,if_neg (λ h=>c1 ⟨by omega,h.2⟩),if_neg (λ h=>c2 ⟨by omega,h.2⟩)]
     by_cases d1:(r:Int)=i<;>by_cases d2:((r+1:Nat):Int)=f<;>by_cases d3:((r+1:Nat):Int)=i<;>by_cases d4:(r:Int)=f
     all_goals try (exfalso;omega)
     all_goals
      refine kw1 kO (kc8 hx l1 l2 p1 p2 d1 d2 (kc2 d3 d4)) kc0 ?_;refine⟨k+1,?_,kF kc0 [] [] ?_,?_⟩
      ·omega
      ·exact kT0 (kc3 hst he @yT.{0})
      ·omega
  ·have:k=ar.length:=by omega
   subst this
   try dsimp only
   refine Zaq _ (Zjv _ _ _ _ ⟨ZbS rfl,ZbS rfl,(by(repeat' first|exact fmn|refine fmc ⟨⟨uY rfl,uY rfl,by dsimp only;omega⟩,?_⟩);done)⟩ rfl [3,914,915,23] rfl rfl rfl rfl) ?_;refine kw1 kO kc0 kc0 ?_;refine Zch (o:=23) rfl rfl (by simp) ?_;rw[uE (by simp),Zbt,gR];rfl
def Zcq (q:List Int)(x:Int):Nat:=(q.filter λ y=>decide (y<x)).length
def ZcA :List Int->List Int->Nat
 |[],_=>0
 |x::p,q=>Zcq q x+ZcA p q
theorem Zuj (q:List Int)(x:Int):Zcq q x<=q.length:=gT _ _
theorem ZD0 (q:List Int)(x y:Int):Zcq (q++[y]) x=Zcq q x+if y<x then 1 else 0:=by
 rw[Zcq,gE,uH,<-Zcq];by_cases h:y<x
 ·simp[h]
 ·simp[h]
theorem ZvG (p q:List Int)(x:Int):ZcA (p++[x]) q=ZcA p q+Zcq q x:=by
 induction p with
 |nil=>simp[ZcA]
 |cons y p ih=>simp only[gX,ZcA,ih];omega
theorem Zmu (p q:List Int):ZcA p q<=p.length*q.length:=by
 induction p with
 |nil=>simp[ZcA]
 |cons y p ih=>
  have:=Zuj q y;simp only[ZcA,uX,qH];omega
theorem ZvH (p q:List Int)(hp:p.length<=1000)(hq:q.length<=1000):Zaa Tryz.prog 222 [Zab p,Zab q] (.int (ZcA p q)):=by
 have hb:∀k,ZcA (p.take k) q<=1000*1000:=λ k=>by
  refine gQ (Zmu _ _) (zE ?_ hq);rw[yF];omega
 refine kE Tryz.func222 ?_;intro hat B X w0;refine kw1 kO kc0 kc0 ?_;refine Zae (λ(i:Nat)=>i<=p.length) (λ i=>[(1, .d (Zab q)),(5, .int (ZcA (p.take i) q)),(10, .d (Zab p)),(11, .int p.length),(12, .int i)]) (λ i=>[]) (λ i=>p.length-i) 0 ?_ ?_ ?_
 ·exact uG _
 ·exact kN (kc2 @yU.{0} @ZcA.eq_1) []
 ·intro i hi;rcases uC i p.length with hlt|hge
  ·obtain⟨x,hx⟩:=Zac hlt;have e1:ZcA (p.take (i+1)) q=ZcA (p.take i) q+Zcq q x:=by rw[ZaA hx,ZvG]
   have hb1:=hb i;have hb2:=hb (i+1);refine kw1 kO (kc1 hx) kc0 ?_;refine Zae (λ(j:Nat)=>j<=q.length) (λ j=>[(1, .d (Zab q)),(5, .int (ZcA (p.take i) q+Zcq (q.take j) x)),(7, .int x),(10, .d (Zab p)),(11, .int p.length),(12, .int i),(16, .d (Zab q)),(17, .int q.length),(18, .int j)]) (λ j=>[]) (λ j=>q.length-j) 0 ?_ ?_ ?_
   ·exact uG _
   ·exact kN (kc5 @yU.{0} @Zcq.eq_1 @kH.{0} @uW.{0} @jW) []
   ·intro j hj;rcases uC j q.length with hlj|hgj
    ·obtain⟨y,hy⟩:=Zac hlj;have e2:Zcq (q.take (j+1)) x=Zcq (q.take j) x+if y<x then 1 else 0:=by rw[ZaA hy,ZD0]
     have hu:=Zuj (q.take j) x;rw[yF]at hu;by_cases c:y<x
     ·rw[if_pos c]at e2;refine kw1 kO (kc2 hy c) kc0 ?_;refine⟨j+1,?_,kN (kc4 e2 @qQ @gY @zB) [],?_⟩
      ·omega
      ·omega
     ·rw[if_neg c]at e2;refine kw1 kO (kc2 hy c) kc0 ?_;refine⟨j+1,?_,kN (kc2 e2 @jA) [],?_⟩
      ·omega
      ·omega
    ·have:j=q.length:=by omega
     subst this
     try dsimp only
     rw[yH];refine kw1 kO kc0 kc0 ?_;refine⟨i+1,?_,kN (kc2 e1 @qQ) [],?_⟩
     ·omega
     ·omega
  ·have:i=p.length:=by omega
   subst this
   try dsimp only
   rw[yH];refine kw1 kO kc0 kc0 ?_;exact Zaf rfl
theorem Zjx (a:Lv)(i:Int):Zaa Tryz.prog 217 [lvD a, .int i] (.bool (decide (0<=i/\i<a.2.1.length))):=by
 obtain⟨n,ls,ar,cs⟩:=a;refine kE Tryz.func217 ?_;intro hat B X w0;have hl:=Zb7 0 1 hat rfl rfl;rw[uD]at hl;dsimp only at hl;by_cases c:0<=i
 ·refine kw1 kO (kc1 c) kc0 ?_;refine Zai ?_;simp[c]
 ·refine kw1 kO (kc1 c) kc0 ?_;refine Zai ?_;simp[c]
def Zay (l:List (List Int))(k:Nat):List Int:=(l[k]?).getD []
def ZdV (at_:List (List Int))(a b:Nat):Int:=if a=b then 0 else ZcA (Zay at_ a) (Zay at_ b)
def Zc9 (at_:List (List Int)):List (List Int):=(List.range at_.length).map λ a=>(List.range at_.length).map λ b=>ZdV at_ a b
def Zd5 (a:Lv)(i f:Int):Bool:=Zaw a&&decide (0<=i/\i<a.2.1.length)&&decide (0<=f/\f<a.2.1.length)&&decide (f=i-1\/f=i+1)
def ZcI (a:Lv)(i:Int):Nat:=((a.2.1[i.toNat]?).getD []).length
def ZaT (a:Lv)(i f:Int):List (List Int):=if Zd5 a i f then Zc9 (Zbt a.2.1 a.2.2.1 i f (ZcI a i))else[]
def ZdJ (at_:List (List Int))(a k:Nat):List Int:=Za9 (λ b=>ZdV at_ a b) at_.length k
theorem ZuM (a:Lv)(i f:Nat)(hw:wide a)(hv:Zaw a=true)(hi:i<a.2.1.length)(hf:f<a.2.1.length)(hif:(f:Int)=i-1\/(f:Int)=i+1):
  Zaa Tryz.prog 177 [lvD a, .int i, .int f] (Zag (Zc9 (Zbt a.2.1 a.2.2.1 i f (ZcI a i)))):=by
 have h1:=ZhD a hw;rw[hv]at h1;have h2:=Zjx a i;have h3:=Zjx a f;rw[yB (by omega)]at h2 h3;obtain⟨y,hy⟩:=Zac hi;have h4:=Zw2 a i f y hv hy;have hla:ZcI a i=y.length:=by rw[ZcI,uK,hy];rfl
 rw[hla];obtain⟨t1,t2⟩:=Zdy hv;have hyl:=Zde (uA hy);obtain⟨s1,_,_⟩:=ZiL hv;have hEl:(Zbt a.2.1 a.2.2.1 i f y.length).length=y.length:=by simp[Zbt]
 have hEn:∀p∈Zbt a.2.1 a.2.2.1 i f y.length,p.length<=1000:=by
  intro p hp;simp only[Zbt,uP,yA]at hp;obtain⟨k,_,rfl⟩:=hp;have:=ZiC a.2.1 a.2.2.1 i f k a.2.2.1.length;omega
 generalize Zbt a.2.1 a.2.2.1 i f y.length=E at*;obtain⟨N,hN⟩:∃N,N=E.length:=⟨_,rfl⟩;have hN5:N<=512:=by omega
 have hbh:∀(u v:Nat) p q,E[u]? =some p->E[v]? =some q->Zaa Tryz.prog 222 [Zab p,Zab q] (.int (ZcA p q)):=λ u v p q hu hv=>ZvH p q (hEn p (uA hu)) (hEn q (uA hv))
 obtain⟨n,ls,ar,cs⟩:=a;dsimp only at*;refine kE Tryz.func177 ?_;intro hat B X w0;rcases hif with hif|hif
 all_goals
  refine kw1 kO (kc2 hif hN.symm) (kc4 h1 h2 h3 h4) ?_;refine Zaq _ (Zju 1 44 1 N rfl (λ i hi=>by simp(disch:=omega) only[go_sem,simprocAttr,ZjZ,Zek]) (by decide) (by decide)) ?_;refine Ze2 (λ(u:Nat)=>u<=N) (λ u=>[(3, .ptr 3 0 0 0),(7, .d (Zag E)),(8, .ref 44 1 0 N N),(46, .int N),(47, .int u)]) (λ u=>[⟨1,44,1,N,λ k=>if k<u then(ZdJ E k N).map D.int else[]⟩]) (λ u=>[(3, .cells [.int n, .d (Zag ls), .d (Zal ar), .d (Zag cs)])]) (λ u=>N-u) 0 ?_ ?_ ?_
  ·exact uG _
  ·refine kF (kc1 hN.symm) [] [] ?_;exact kT0 (kc1 @An)
  ·intro u hu;rcases uC u N with hlt|hge
   ·obtain⟨eu,heu⟩:=Zac (l:=E) (k:=u) (by omega);have hz:List.replicate N (D.int 0)=(ZdJ E u 0).map D.int:=by rw[ZdJ,ZhR,hN]
    have hnu:¬u<u:=by omega
    refine Zaq _ (ZfT _ _ [3,44] 44 u 900 1 1 N (by first|rfl|(simp(disch:=omega) only[go_sem,simprocAttr,hnu];done)|(simp(disch:=omega) only[go_sem,simprocAttr,hnu];rfl)) (by first|(simp(disch:=omega) only[go_sem,simprocAttr,hnu];done)|(simp(disch:=omega) only[go_sem,simprocAttr,hnu];rfl)) (by first|(simp(disch:=omega) only[go_sem,simprocAttr,hnu];done)|(simp(disch:=omega) only[go_sem,simprocAttr,hnu];rfl)) (λ i hi hne=>by simp(disch:=omega) only[go_sem,simprocAttr,hne,hnu];(repeat' split)<;>exact .ref _ _ _ _ _ ⟨by simp(disch:=omega) only[go_sem,simprocAttr,hne,hnu],by simp(disch:=omega) only[go_sem,simprocAttr,hne,hnu]⟩) (by(repeat' first|refine ZfI ?_|exact ZfJ (ids:=[3,44]) rfl rfl (uY rfl)|refine ZfH ?_|refine ZfK ?_|refine ZfF ?_|refine ZfL ?_|refine ZfM ?_|refine ZfG (by dsimp only;omega) (by dsimp only;omega) (by omega) (by omega) (uY rfl) ?_);done) rfl rfl rfl) ?_;refine kw1 (kow (Nat.beq 54) (b:=true)) (kc2 hN.symm hnu) kc0 ?_;refine Ze2 (λ(b:Nat)=>b<=N) (λ b=>[(3, .ptr 3 0 0 0),(7, .d (Zag E)),(8, .ref 44 1 0 N N),(9, .int u),(46, .int N),(47, .int u),(57, .int N),(58, .int b)]) (λ b=>[⟨1,44,1,N,λ k=>if k<u then(ZdJ E k N).map D.int else if k=u then(ZdJ E u b).map D.int else[]⟩]) (λ b=>[(3, .cells [.int n, .d (Zag ls), .d (Zal ar), .d (Zag cs)])]) (λ b=>N-b) 0 ?_ ?_ ?_
    ·exact uG _
    ·refine kF (kc1 hN.symm) [(fid 1 u,54)] [] ?_;exact kT1 (kc6 hz @Zdw @ZdJ.eq_1 @uD.{0,0} hN.symm hnu) u
    ·intro b hb;have hfl:=Zdw (λ b=>ZdV E u b) E.length b;rw[<-hN]at hfl;rcases uC b N with hlb|hgb
     ·obtain⟨eb,heb⟩:=Zac (l:=E) (k:=b) (by omega);have hg:(ZdJ E u b)[b]? =some 0:=by rw[ZdJ,Zfj (by omega),if_neg (by omega)]
      have hst:(ZdJ E u b).set b (ZdV E u b)=ZdJ E u (b+1):=ZhQ (g:=λ b=>ZdV E u b) (by omega);have hbe:=hbh u b eu eb heu heb;have hfl2:(ZdJ E u b).length=N:=by rw[ZdJ,Zdw,hN]
      by_cases c:u=b
      ·have hcell:ZdV E u b=0:=by rw[ZdV,if_pos c]
       have hst2:ZdJ E u (b+1)=ZdJ E u b:=by
        rw[<-hst,hcell];refine yS λ v=>?_
        rw[yX];split
        ·rename_i hv2;subst hv2;rw[hg,if_pos (by omega)]
        ·rfl
       have cI:(u:Int)=b:=by omega
       refine kw1 kO (kc2 hN.symm cI) kc0 ?_;refine⟨b+1,?_,kF kc0 [] [] ?_,?_⟩
       ·omega
       ·exact kT1 (kc2 hst2 hnu) u
       ·omega
      ·have hcell:ZdV E u b=ZcA eu eb:=by rw[ZdV,if_neg c,Zay,Zay,heu,heb];rfl
       have cI:¬(u:Int)=b:=by omega
       rw[hcell]at hst;refine Zaq _ (ZfT _ _ [3,44] 44 u 900 1 1 N (by first|rfl|(simp(disch:=omega) only[go_sem,simprocAttr,hnu,hfl2];done)|(simp(disch:=omega) only[go_sem,simprocAttr,hnu,hfl2];rfl)) (by first|(simp(disch:=omega) only[go_sem,simprocAttr,hnu,hfl2];done)|(simp(disch:=omega) only[go_sem,simprocAttr,hnu,hfl2];rfl)) (by first|(simp(disch:=omega) only[go_sem,simprocAttr,hnu,hfl2];done)|(simp(disch:=omega) only[go_sem,simprocAttr,hnu,hfl2];rfl)) (λ i hi hne=>by simp(disch:=omega) only[go_sem,simprocAttr,hne,hnu,hfl2];(repeat' split)<;>exact .ref _ _ _ _ _ ⟨by simp(disch:=omega) only[go_sem,simprocAttr,hne,hnu,hfl2],by simp(disch:=omega) only[go_sem,simprocAttr,hne,hnu,hfl2]⟩) (by(repeat' first|refine ZfI ?_|exact ZfJ (ids:=[3,44]) rfl rfl (uY rfl)|refine ZfH ?_|refine ZfK ?_|refine ZfF ?_|refine ZfL ?_|refine ZfM ?_|refine ZfG (by dsimp only;omega) (by dsimp only;omega) (by omega) (by omega) (uY rfl) ?_);done) rfl rfl rfl) ?_;refine kw1 kO (kc7 hN.symm cI heu heb hg hfl2 hnu) (kc1 hbe) ?_;refine⟨b+1,?_,kF kc0 [(fid 1 u,900)] [] ?_,?_⟩
       ·omega
       ·exact kT1 (kc6 @hst.symm @yR.{0,0} @yJ.{0} @uD.{0,0} hfl2 hnu) u
       ·omega
     ·have:b=N:=by omega
      subst this;have hsu:∀i,i≠u->((i<u+1)=(i<u)):=λ i h=>propext (by omega)
      refine kw1 kO kc0 kc0 ?_;refine⟨u+1,?_,kF kc0 [] [] ?_,?_⟩
      ·omega
      ·exact kT1 (kc3 hnu hsu @Dh) u
      ·omega
   ·have:u=N:=by omega
    subst this
    try dsimp only
    refine Zaq _ (Zjv _ _ _ _ ⟨ZbS rfl,ZbS rfl,(by(repeat' first|exact fmn|refine fmc ⟨⟨uY rfl,uY rfl,by dsimp only;omega⟩,?_⟩);done)⟩ rfl [3,44] rfl rfl rfl rfl) ?_;refine kw1 kO kc0 kc0 ?_;refine Zch (o:=44) rfl rfl (by simp) ?_;rw[uE (by simp),Zc9,<-hN,gR];refine yN λ k hk=>?_
    rw[if_pos (yA.1 hk),ZdJ,<-hN,ZhP];rfl
theorem ZuN (a:Lv)(i f:Int)(hw:wide a)(hm:Zd5 a i f=false):Zaa Tryz.prog 177 [lvD a, .int i, .int f] (Zag []):=by
 have h1:=ZhD a hw;have h2:=Zjx a i;have h3:=Zjx a f;rw[Zd5]at hm;rcases c1:Zaw a with _|_<;>rw[c1]at h1 hm
 ·refine kE Tryz.func177 ?_;intro hat B X w0;refine kw1 kO kc0 (kc1 h1) ?_;exact ZdB rfl
 ·by_cases c2:0<=i/\i<a.2.1.length
  ·rw[yB c2]at h2 hm;by_cases c3:0<=f/\f<a.2.1.length
   ·rw[yB c3]at h3 hm;have c4:¬(f=i-1\/f=i+1):=by simpa using hm
    have d1:¬f=i-1:=λ h=>c4 (.inl h)
    have d2:¬f=i+1:=λ h=>c4 (.inr h)
    obtain⟨t1,t2⟩:=Zdy c1;refine kE Tryz.func177 ?_;intro hat B X w0;refine kw1 kO (kc2 d1 d2) (kc3 h1 h2 h3) ?_;exact ZdB rfl
   ·rw[uU c3]at h3;refine kE Tryz.func177 ?_;intro hat B X w0;refine kw1 kO kc0 (kc3 h1 h2 h3) ?_;exact ZdB rfl
  ·rw[uU c2]at h2;refine kE Tryz.func177 ?_;intro hat B X w0;refine kw1 kO kc0 (kc3 h1 h2 h3) ?_;exact ZdB rfl
theorem Zo8 (a:Lv)(i f:Int)(hw:wide a):Zaa Tryz.prog 177 [lvD a, .int i, .int f] (Zag (ZaT a i f)):=by
 rcases h:Zd5 a i f with _|_
 ·rw[ZaT,h,if_neg (by decide)];exact ZuN a i f hw h
 ·have e:ZaT a i f=Zc9 (Zbt a.2.1 a.2.2.1 i f (ZcI a i)):=by rw[ZaT,h,if_pos rfl]
  rw[e];simp only[Zd5,uM,uF]at h;obtain⟨⟨⟨h1,h2⟩,h3⟩,h4⟩:=h;obtain⟨i,rfl⟩:∃n:Nat,i=n:=⟨i.toNat,by omega⟩;obtain⟨f,rfl⟩:∃n:Nat,f=n:=⟨f.toNat,by omega⟩;exact ZuM a i f hw h1 (by omega) (by omega) h4
def ZaJ (f:Nat->Int):Nat->Int
 |0=>0
 |k+1=>ZaJ f k+f k
theorem Zkp {f:Nat->Int}{c:Nat}:∀n,(∀k,k<n->0<=f k/\f k<=c)->0<=ZaJ f n/\ZaJ f n<=((n*c:Nat):Int)
 |0,_=>by simp[ZaJ]
 |n+1,h=>by
  have ih:=Zkp n λ k hk=>h k (by omega)
  have:=h n (by omega);rw[ZaJ,qH];omega
theorem ZoG {f g:Nat->Int}:∀n,(∀k,k<n->f k=g k)->ZaJ f n=ZaJ g n
 |0,_=>rfl
 |n+1,h=>by rw[ZaJ,ZaJ,ZoG n λ k hk=>h k (by omega),h n (by omega)]
def Zak (m:List (List Int))(b a:Nat):Int:=at0 (Zay m b) a
def ZoN (m:List (List Int)):Int:=ZaJ (λ a=>ZaJ (λ b=>Zak m b a) a) m.length
structure Sq (m:List (List Int)):Prop where
 len:m.length<=600
 row:∀p,p∈m->p.length=m.length
 val:∀p,p∈m->∀x,x∈p->0<=x/\x<=1000000
theorem Sq.get {m:List (List Int)}(h:Sq m){b a:Nat}(hb:b<m.length)(ha:a<m.length):∃p,m[b]? =some p/\p.length=m.length/\p[a]? =some (Zak m b a)/\0<=Zak m b a/\Zak m b a<=1000000:=by
 obtain⟨p,hp⟩:=Zac hb;have hl:=h.row p (uA hp);have hg:=at0_at (r:=p) (i:=a) (by omega);have e:Zak m b a=at0 p a:=by rw[Zak,Zay,hp];rfl
 rw[<-e]at hg;exact⟨p,hp,hl,hg,h.val p (uA hp) _ (uA hg)⟩
theorem Sq.nil :Sq []:=⟨by simp,by simp,by simp⟩
theorem Zkx (a:Lv)(i f:Int):Sq (ZaT a i f):=by
 rw[ZaT];split
 ·rename_i h;simp only[Zd5,uM,uF]at h;obtain⟨⟨⟨h1,h2⟩,h3⟩,h4⟩:=h;obtain⟨t1,t2⟩:=Zdy h1;obtain⟨s1,_,_⟩:=ZiL h1;obtain⟨y,hy⟩:=Zac (l:=a.2.1) (k:=i.toNat) (by omega);have hyl:=Zde (uA hy);have hla:ZcI a i=y.length:=by rw[ZcI,hy];rfl
  have hEn:∀k,(Zay (Zbt a.2.1 a.2.2.1 i f (ZcI a i)) k).length<=1000:=by
   intro k;rw[Zay];cases hk:(Zbt a.2.1 a.2.2.1 i f (ZcI a i))[k]? with
   |none=>simp
   |some p=>
    have hp:=uA hk;simp only[Zbt,uP,yA]at hp;obtain⟨k,_,rfl⟩:=hp;have:=ZiC a.2.1 a.2.2.1 i f k a.2.2.1.length;simp only[yK];omega
  have hEl:(Zbt a.2.1 a.2.2.1 i f (ZcI a i)).length=y.length:=by simp[Zbt,hla]
  generalize Zbt a.2.1 a.2.2.1 i f (ZcI a i)=E at*;refine⟨by simp[Zc9,hEl];omega,λ p hp=>?_,λ p hp x hx=>?_⟩
  ·simp only[Zc9,uP,yA]at hp;obtain⟨k,_,rfl⟩:=hp;simp[Zc9]
  ·simp only[Zc9,uP,yA]at hp;obtain⟨k,_,rfl⟩:=hp;obtain⟨j,_,rfl⟩:=uP.1 hx;rw[ZdV];split
   ·omega
   ·have h1:=Zmu (Zay E k) (Zay E j);have h2:(Zay E k).length*(Zay E j).length<=1000*1000:=zE (hEn k) (hEn j);omega
 ·exact Sq.nil
def ZjW (a:Lv)(i:Int):Bool:=decide (¬(0<=i/\i<a.2.1.length)\/i=(a.2.1.length:Int)-1)
def Zb5 (a:Lv)(i:Int):Int:=if ZjW a i then 0 else ZoN (ZaT a i (i+1))
theorem Zui {m:List (List Int)}(h:Sq m){x:Nat}(hx:x<m.length):∀k,k<=x->0<=ZaJ (λ b=>Zak m b x) k/\ZaJ (λ b=>Zak m b x) k<=600*1000000:=λ k hk=>by
 have:=Zkp (f:=λ b=>Zak m b x) (c:=1000000) k λ b hb=>by obtain⟨_,_,_,_,h5⟩:=h.get (b:=b) (a:=x) (by omega) hx;exact h5
 have:=h.len;have h2:k*1000000<=600*1000000:=yP _ (by omega);omega
theorem ZoO {m:List (List Int)}(h:Sq m):∀k,k<=m.length->0<=ZaJ (λ x=>ZaJ (λ b=>Zak m b x) x) k/\ZaJ (λ x=>ZaJ (λ b=>Zak m b x) x) k<=600*600000000:=λ k hk=>by
 have:=Zkp (f:=λ x=>ZaJ (λ b=>Zak m b x) x) (c:=600000000) k λ x hx=>by have:=Zui h (x:=x) (by omega) x (uI _);omega
 have:=h.len;have h2:k*600000000<=600*600000000:=yP _ (by omega);omega
theorem ZuF (a:Lv)(i:Int)(hw:wide a):Zaa Tryz.prog 169 [lvD a, .int i] (.int (Zb5 a i)):=by
 have h2:=Zjx a i;have h3:=Zo8 a i (i+1) hw;rw[Zb5,ZjW];by_cases c1:0<=i/\i<a.2.1.length
 ·rw[yB c1]at h2;by_cases c2:i=(a.2.1.length:Int)-1
  ·rw[if_pos (by simp[c2])];obtain⟨n,ls,ar,cs⟩:=a;dsimp only at c1 c2;refine kE Tryz.func169 ?_;intro hat B X w0;have hl:=Zb7 0 1 hat rfl rfl;rw[uD]at hl;dsimp only at hl;refine kw1 kO (kc1 c2.symm) (kc1 h2) ?_;exact Zaf rfl
  ·rw[if_neg (by simp;omega)];have hs:=Zkx a i (i+1);generalize ZaT a i (i+1)=m at h3 hs|-;have hml:=hs.len;obtain⟨n,ls,ar,cs⟩:=a;dsimp only at c1 c2;refine kE Tryz.func169 ?_;intro hat B X w0;have hl:=Zb7 0 1 hat rfl rfl;rw[uD]at hl;dsimp only at hl;refine kw1 kO (kc1 c2) (kc2 h2 h3) ?_;refine Zae (λ(x:Nat)=>x<=m.length) (λ x=>[(5, .int (ZaJ (λ x=>ZaJ (λ b=>Zak m b x) x) x)),(6, .d (Zag m)),(27, .int m.length),(28, .int x)]) (λ x=>[]) (λ x=>m.length-x) 0 ?_ ?_ ?_
   ·exact uG _
   ·exact kN (kc1 @ZaJ.eq_1) []
   ·intro x hx;rcases uC x m.length with hlt|hge
    ·have ho:=ZoO hs x (by omega);have ho2:=ZoO hs (x+1) (by omega);have e1:ZaJ (λ x=>ZaJ (λ b=>Zak m b x) x) (x+1)=ZaJ (λ x=>ZaJ (λ b=>Zak m b x) x) x+ZaJ (λ b=>Zak m b x) x:=rfl;obtain⟨s0,e0⟩:∃s0,ZaJ (λ x=>ZaJ (λ b=>Zak m b x) x) x=s0:=⟨_,rfl⟩;rw[e0]at ho e1;rw[e1]at ho2;refine kw1 kO kc0 kc0 ?_;refine Zae (λ(y:Nat)=>y<=x) (λ y=>[(5, .int (s0+ZaJ (λ b=>Zak m b x) y)),(6, .d (Zag m)),(7, .int x),(27, .int m.length),(28, .int x),(31, .int x),(32, .int y)]) (λ y=>[]) (λ y=>x-y) 0 ?_ ?_ ?_
     ·exact uG _
     ·exact kN (kc3 e0 @ZaJ.eq_1 @jW) []
     ·intro y hy;rcases uC y x with hly|hgy
      ·obtain⟨p,hp,hpl,hpg,hp1,hp2⟩:=hs.get (b:=y) (a:=x) (by omega) hlt;have hi:=Zui hs hlt y (by omega);have e2:ZaJ (λ b=>Zak m b x) (y+1)=ZaJ (λ b=>Zak m b x) y+Zak m y x:=rfl;refine kw1 kO (kc3 hp hpg hpl) kc0 ?_;refine⟨y+1,?_,kN (kc2 e2 @zB) [],?_⟩
       ·omega
       ·omega
      ·have:y=x:=by omega
       subst this;refine kw1 kO kc0 kc0 ?_;refine⟨y+1,?_,kN (kc1 e1) [],?_⟩
       ·omega
       ·omega
    ·have:x=m.length:=by omega
     subst this;refine kw1 kO kc0 kc0 ?_;exact Zaf rfl
 ·rw[uU c1]at h2;rw[if_pos (by simp only[uF];exact .inl c1)];refine kE Tryz.func169 ?_;intro hat B X w0;refine kw1 kO kc0 (kc1 h2) ?_;exact Zaf rfl
def Zbk (a:Lv):Int:=ZaJ (λ i=>Zb5 a i) a.2.1.length
theorem Zo5 (a:Lv)(i:Int):0<=Zb5 a i/\Zb5 a i<=360000000000:=by
 rw[Zb5];split
 ·omega
 ·have hs:=Zkx a i (i+1);have:=ZoO hs _ (uI _);rw[ZoN];omega
theorem Zpe (a:Lv)(hw:wide a)(hl:a.2.1.length<=1000):Zaa Tryz.prog 105 [lvD a] (.int (Zbk a)):=by
 have hb:=λ i=>ZuF a i hw
 have hbl:=Zo5 a;have hs:∀k,k<=a.2.1.length->0<=ZaJ (λ i=>Zb5 a i) k/\ZaJ (λ i=>Zb5 a i) k<=1000*360000000000:=λ k hk=>by
  have:=Zkp (f:=λ i=>Zb5 a i) (c:=360000000000) k λ i _=>hbl i
  have h2:k*360000000000<=1000*360000000000:=yP _ (by omega);omega
 rw[Zbk];generalize hB:(λ i:Nat=>Zb5 a i)=Bf at hs|-;have hb2:∀i:Nat,Zaa Tryz.prog 169 [lvD a, .int i] (.int (Bf i)):=λ i=>by rw[<-hB];exact hb i
 obtain⟨n,ls,ar,cs⟩:=a;dsimp only at*;refine kE Tryz.func105 ?_;intro hat B X w0;refine kw1 kO kc0 kc0 ?_;refine Zae (λ(i:Nat)=>i<=ls.length) (λ i=>[(1, .ptr 1 0 0 0),(3, .int (ZaJ Bf i)),(7, .int ls.length),(8, .int i)]) (λ i=>[(1, .cells [.int n, .d (Zag ls), .d (Zal ar), .d (Zag cs)])]) (λ i=>ls.length-i) 0 ?_ ?_ ?_
 ·exact uG _
 ·exact kN (kc1 @ZaJ.eq_1) []
 ·intro i hi;rcases uC i ls.length with hlt|hge
  ·have h1:=hs i hi;have h2:=hs (i+1) (by omega);have e1:ZaJ Bf (i+1)=ZaJ Bf i+Bf i:=rfl;have hbi:=hb2 i;refine kw1 kO kc0 (kc1 hbi) ?_;refine⟨i+1,?_,kN (kc1 e1) [],?_⟩
   ·omega
   ·omega
  ·have:i=ls.length:=by omega
   subst this;refine kw1 kO kc0 kc0 ?_;exact Zaf rfl
def ZgC (y z:List Int)(x:Arc):List (Int×Int):=if 0<=placeF y x.1/\0<=placeF z x.2 then[(placeF y x.1,placeF z x.2)]else[]
def ZbJ (y z:List Int)(ar:List Arc):List (Int×Int):=ar.flatMap (ZgC y z)
abbrev Zj5 (p:Int×Int):D:= .sl [.int p.1, .int p.2]
end Go.Proofs.YtjjbhjnpeenbkaaGreatDoor
