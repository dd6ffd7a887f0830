/- Crossings: Matrix, Between, Total, Straight of the program. -/
import Derived.Test.YtjjbhjnpeenbkaaGreatDoorO
import Derived.Test.YtjjbhjnpeenbkaaGreatDoorPSBridge
import Derived.Test.YtjjbhjnpeenbkaaGreatDoorG
set_option linter.unusedSimpArgs false
set_option linter.unusedVariables false
set_option maxHeartbeats 16000000
namespace Go.Proofs.YtjjbhjnpeenbkaaGreatDoor
open Go Go.PS Go.Proofs
set_option maxRecDepth 100000
attribute [local irreducible] Zad wpG Zaa Zag
theorem ZvU (a:Lv)(i f:Int)(hw:wide a)(hm:Zec a i f=false):Zaa Tryz.prog 177 [lvD a, .int i, .int f] (Zae []):=by
 have h1:=Zgh a hw;have h2:=ZjQ a i;have h3:=ZjQ a f;rw[Zec]at hm;rcases c1:Zar a with _|_<;>rw[c1]at h1 hm
 ·refine kE Tryz.func177 ?_;intro hat B X w0;refine kw1 kO kc0 (kc1 h1) ?_;exact Zcm rfl
 ·by_cases c2:0<=i/\i<a.2.1.length
  ·rw[yD c2]at h2 hm;by_cases c3:0<=f/\f<a.2.1.length
   ·rw[yD c3]at h3 hm;have c4:¬(f=i-1\/f=i+1):=by simpa using hm
    have d1:¬f=i-1:=λ h=>c4 (.inl h)
    have d2:¬f=i+1:=λ h=>c4 (.inr h)
    obtain⟨t1,t2⟩:=ZcV c1;refine kE Tryz.func177 ?_;intro hat B X w0;refine kw1 kO (kc2 d1 d2) (kc3 h1 h2 h3) ?_;exact Zcm rfl
   ·rw[uV c3]at h3;refine kE Tryz.func177 ?_;intro hat B X w0;refine kw1 kO kc0 (kc3 h1 h2 h3) ?_;exact Zcm rfl
  ·rw[uV c2]at h2;refine kE Tryz.func177 ?_;intro hat B X w0;refine kw1 kO kc0 (kc3 h1 h2 h3) ?_;exact Zcm rfl
theorem ZpI (a:Lv)(i f:Int)(hw:wide a):Zaa Tryz.prog 177 [lvD a, .int i, .int f] (Zae (ZaU a i f)):=by
 rcases h:Zec a i f with _|_
 ·rw[ZaU,h,if_neg (by decide)];exact ZvU a i f hw h
 ·have e:ZaU a i f=Zc8 (Zbm a.2.1 a.2.2.1 i f (ZcM a i)):=by rw[ZaU,h,if_pos rfl]
  rw[e];simp only[Zec,uL,uF]at h;obtain⟨⟨⟨h1,h2⟩,h3⟩,h4⟩:=h;obtain⟨i,rfl⟩:∃n:Nat,i=n:=⟨i.toNat,by omega⟩;obtain⟨f,rfl⟩:∃n:Nat,f=n:=⟨f.toNat,by omega⟩;exact ZvT a i f hw h1 (by omega) (by omega) h4
def ZaK (f:Nat->Int):Nat->Int
 |0=>0
 |k+1=>ZaK f k+f k
theorem ZkG {f:Nat->Int}{c:Nat}:∀n,(∀k,k<n->0<=f k/\f k<=c)->0<=ZaK f n/\ZaK f n<=((n*c:Nat):Int)
 |0,_=>by simp[ZaK]
 |n+1,h=>by
  have ih:=ZkG n λ k hk=>h k (by omega)
  have:=h n (by omega);rw[ZaK,qJ];omega
theorem Zpf {f g:Nat->Int}:∀n,(∀k,k<n->f k=g k)->ZaK f n=ZaK g n
 |0,_=>rfl
 |n+1,h=>by rw[ZaK,ZaK,Zpf n λ k hk=>h k (by omega),h n (by omega)]
def Zak (m:List (List Int))(b a:Nat):Int:=at0 (Zaw m b) a
def Zpn (m:List (List Int)):Int:=ZaK (λ a=>ZaK (λ b=>Zak m b a) a) m.length
structure Sq (m:List (List Int)):Prop where
 len:m.length<=600
 row:∀p,p∈m->p.length=m.length
 val:∀p,p∈m->∀x,x∈p->0<=x/\x<=1000000
theorem Sq.get {m:List (List Int)}(h:Sq m){b a:Nat}(hb:b<m.length)(ha:a<m.length):∃p,m[b]? =some p/\p.length=m.length/\p[a]? =some (Zak m b a)/\0<=Zak m b a/\Zak m b a<=1000000:=by
 obtain⟨p,hp⟩:=Zac hb;have hl:=h.row p (uA hp);have hg:=ZaG (r:=p) (i:=a) (by omega);have e:Zak m b a=at0 p a:=by rw[Zak,Zaw,hp];rfl
 rw[<-e]at hg;exact⟨p,hp,hl,hg,h.val p (uA hp) _ (uA hg)⟩
theorem Sq.nil :Sq []:=⟨by simp,by simp,by simp⟩
theorem ZkP (a:Lv)(i f:Int):Sq (ZaU a i f):=by
 rw[ZaU];split
 ·rename_i h;simp only[Zec,uL,uF]at h;obtain⟨⟨⟨h1,h2⟩,h3⟩,h4⟩:=h;obtain⟨t1,t2⟩:=ZcV h1;obtain⟨s1,_,_⟩:=Zia h1;obtain⟨y,hy⟩:=Zac (l:=a.2.1) (k:=i.toNat) (by omega);have hyl:=Zdq (uA hy);have hla:ZcM a i=y.length:=by rw[ZcM,hy];rfl
  have hEn:∀k,(Zaw (Zbm a.2.1 a.2.2.1 i f (ZcM a i)) k).length<=1000:=by
   intro k;rw[Zaw];cases hk:(Zbm a.2.1 a.2.2.1 i f (ZcM a i))[k]? with
   |none=>simp
   |some p=>
    have hp:=uA hk;simp only[Zbm,uP,uZ]at hp;obtain⟨k,_,rfl⟩:=hp;have:=ZiS a.2.1 a.2.2.1 i f k a.2.2.1.length;simp only[yN];omega
  have hEl:(Zbm a.2.1 a.2.2.1 i f (ZcM a i)).length=y.length:=by simp[Zbm,hla]
  generalize Zbm a.2.1 a.2.2.1 i f (ZcM a i)=E at*;refine⟨by simp[Zc8,hEl];omega,λ p hp=>?_,λ p hp x hx=>?_⟩
  ·simp only[Zc8,uP,uZ]at hp;obtain⟨k,_,rfl⟩:=hp;simp[Zc8]
  ·simp only[Zc8,uP,uZ]at hp;obtain⟨k,_,rfl⟩:=hp;obtain⟨j,_,rfl⟩:=uP.1 hx;rw[Zd2];split
   ·omega
   ·have h1:=ZmV (Zaw E k) (Zaw E j);have h2:(Zaw E k).length*(Zaw E j).length<=1000*1000:=kZ (hEn k) (hEn j);omega
 ·exact Sq.nil
def Zkg (a:Lv)(i:Int):Bool:=decide (¬(0<=i/\i<a.2.1.length)\/i=(a.2.1.length:Int)-1)
def Zb4 (a:Lv)(i:Int):Int:=if Zkg a i then 0 else Zpn (ZaU a i (i+1))
theorem Zvo {m:List (List Int)}(h:Sq m){x:Nat}(hx:x<m.length):∀k,k<=x->0<=ZaK (λ b=>Zak m b x) k/\ZaK (λ b=>Zak m b x) k<=600*1000000:=λ k hk=>by
 have:=ZkG (f:=λ b=>Zak m b x) (c:=1000000) k λ b hb=>by obtain⟨_,_,_,_,h5⟩:=h.get (b:=b) (a:=x) (by omega) hx;exact h5
 have:=h.len;have h2:k*1000000<=600*1000000:=yO _ (by omega);omega
theorem Zpo {m:List (List Int)}(h:Sq m):∀k,k<=m.length->0<=ZaK (λ x=>ZaK (λ b=>Zak m b x) x) k/\ZaK (λ x=>ZaK (λ b=>Zak m b x) x) k<=600*600000000:=λ k hk=>by
 have:=ZkG (f:=λ x=>ZaK (λ b=>Zak m b x) x) (c:=600000000) k λ x hx=>by have:=Zvo h (x:=x) (by omega) x (uJ _);omega
 have:=h.len;have h2:k*600000000<=600*600000000:=yO _ (by omega);omega
theorem ZvI (a:Lv)(i:Int)(hw:wide a):Zaa Tryz.prog 169 [lvD a, .int i] (.int (Zb4 a i)):=by
 have h2:=ZjQ a i;have h3:=ZpI a i (i+1) hw;rw[Zb4,Zkg];by_cases c1:0<=i/\i<a.2.1.length
 ·rw[yD c1]at h2;by_cases c2:i=(a.2.1.length:Int)-1
  ·rw[if_pos (by simp[c2])];obtain⟨n,ls,ar,cs⟩:=a;dsimp only at c1 c2;refine kE Tryz.func169 ?_;intro hat B X w0;have hl:=Zcf 0 1 hat rfl rfl;rw[uC]at hl;dsimp only at hl;refine kw1 kO (kc1 c2.symm) (kc1 h2) ?_;exact Zai rfl
  ·rw[if_neg (by simp;omega)];have hs:=ZkP a i (i+1);generalize ZaU a i (i+1)=m at h3 hs|-;have hml:=hs.len;obtain⟨n,ls,ar,cs⟩:=a;dsimp only at c1 c2;refine kE Tryz.func169 ?_;intro hat B X w0;have hl:=Zcf 0 1 hat rfl rfl;rw[uC]at hl;dsimp only at hl;refine kw1 kO (kc1 c2) (kc2 h2 h3) ?_;refine Zaf (λ(x:Nat)=>x<=m.length) (λ x=>[(5, .int (ZaK (λ x=>ZaK (λ b=>Zak m b x) x) x)),(6, .d (Zae m)),(27, .int m.length),(28, .int x)]) (λ x=>[]) (λ x=>m.length-x) 0 ?_ ?_ ?_
   ·exact uH _
   ·exact kN (kc1 @ZaK.eq_1) []
   ·intro x hx;rcases uE x m.length with hlt|hge
    ·have ho:=Zpo hs x (by omega);have ho2:=Zpo hs (x+1) (by omega);have e1:ZaK (λ x=>ZaK (λ b=>Zak m b x) x) (x+1)=ZaK (λ x=>ZaK (λ b=>Zak m b x) x) x+ZaK (λ b=>Zak m b x) x:=rfl;obtain⟨s0,e0⟩:∃s0,ZaK (λ x=>ZaK (λ b=>Zak m b x) x) x=s0:=⟨_,rfl⟩;rw[e0]at ho e1;rw[e1]at ho2;refine kw1 kO kc0 kc0 ?_;refine Zaf (λ(y:Nat)=>y<=x) (λ y=>[(5, .int (s0+ZaK (λ b=>Zak m b x) y)),(6, .d (Zae m)),(7, .int x),(27, .int m.length),(28, .int x),(31, .int x),(32, .int y)]) (λ y=>[]) (λ y=>x-y) 0 ?_ ?_ ?_
     ·exact uH _
     ·exact kN (kc3 e0 @ZaK.eq_1 @jW) []
     ·intro y hy;rcases uE y x with hly|hgy
      ·obtain⟨p,hp,hpl,hpg,hp1,hp2⟩:=hs.get (b:=y) (a:=x) (by omega) hlt;have hi:=Zvo hs hlt y (by omega);have e2:ZaK (λ b=>Zak m b x) (y+1)=ZaK (λ b=>Zak m b x) y+Zak m y x:=rfl;refine kw1 kO (kc3 hp hpg hpl) kc0 ?_;refine⟨y+1,?_,kN (kc2 e2 @zJ) [],?_⟩
       ·omega
       ·omega
      ·have:y=x:=by omega
       subst this;refine kw1 kO kc0 kc0 ?_;refine⟨y+1,?_,kN (kc1 e1) [],?_⟩
       ·omega
       ·omega
    ·have:x=m.length:=by omega
     subst this;refine kw1 kO kc0 kc0 ?_;exact Zai rfl
 ·rw[uV c1]at h2;rw[if_pos (by simp only[uF];exact .inl c1)];refine kE Tryz.func169 ?_;intro hat B X w0;refine kw1 kO kc0 (kc1 h2) ?_;exact Zai rfl
def Zbc (a:Lv):Int:=ZaK (λ i=>Zb4 a i) a.2.1.length
theorem ZpD (a:Lv)(i:Int):0<=Zb4 a i/\Zb4 a i<=360000000000:=by
 rw[Zb4];split
 ·omega
 ·have hs:=ZkP a i (i+1);have:=Zpo hs _ (uJ _);rw[Zpn];omega
theorem ZpP (a:Lv)(hw:wide a)(hl:a.2.1.length<=1000):Zaa Tryz.prog 105 [lvD a] (.int (Zbc a)):=by
 have hb:=λ i=>ZvI a i hw
 have hbl:=ZpD a;have hs:∀k,k<=a.2.1.length->0<=ZaK (λ i=>Zb4 a i) k/\ZaK (λ i=>Zb4 a i) k<=1000*360000000000:=λ k hk=>by
  have:=ZkG (f:=λ i=>Zb4 a i) (c:=360000000000) k λ i _=>hbl i
  have h2:k*360000000000<=1000*360000000000:=yO _ (by omega);omega
 rw[Zbc];generalize hB:(λ i:Nat=>Zb4 a i)=Bf at hs|-;have hb2:∀i:Nat,Zaa Tryz.prog 169 [lvD a, .int i] (.int (Bf i)):=λ i=>by rw[<-hB];exact hb i
 obtain⟨n,ls,ar,cs⟩:=a;dsimp only at*;refine kE Tryz.func105 ?_;intro hat B X w0;refine kw1 kO kc0 kc0 ?_;refine Zaf (λ(i:Nat)=>i<=ls.length) (λ i=>[(1, .ptr 1 0 0 0),(3, .int (ZaK Bf i)),(7, .int ls.length),(8, .int i)]) (λ i=>[(1, .cells [.int n, .d (Zae ls), .d (Zaj ar), .d (Zae cs)])]) (λ i=>ls.length-i) 0 ?_ ?_ ?_
 ·exact uH _
 ·exact kN (kc1 @ZaK.eq_1) []
 ·intro i hi;rcases uE i ls.length with hlt|hge
  ·have h1:=hs i hi;have h2:=hs (i+1) (by omega);have e1:ZaK Bf (i+1)=ZaK Bf i+Bf i:=rfl;have hbi:=hb2 i;refine kw1 kO kc0 (kc1 hbi) ?_;refine⟨i+1,?_,kN (kc1 e1) [],?_⟩
   ·omega
   ·omega
  ·have:i=ls.length:=by omega
   subst this;refine kw1 kO kc0 kc0 ?_;exact Zai rfl
def ZgA (y z:List Int)(x:Arc):List (Int×Int):=if 0<=placeF y x.1/\0<=placeF z x.2 then[(placeF y x.1,placeF z x.2)]else[]
def ZbJ (y z:List Int)(ar:List Arc):List (Int×Int):=ar.flatMap (ZgA y z)
abbrev Zko (p:Int×Int):D:= .sl [.int p.1, .int p.2]
def ZlH (c:List Int):Bool:=decide (60<c.length)
def ZfV (a:Lv):Bool:=decide (a.2.1.length<=60/\a.2.2.1.length<=90/\a.2.2.2.length<=90)&& !a.2.1.any ZlH&& !a.2.2.2.any ZlH
theorem Zny {a:Lv}(h:ZfV a=true):a.2.1.length<=60/\a.2.2.1.length<=90/\a.2.2.2.length<=90/\(∀y,y∈a.2.1->y.length<=60)/\∀y,y∈a.2.2.2->y.length<=60:=by
 simp only[ZfV,uL,uF,yC,yS]at h;obtain⟨⟨⟨h1,h2,h3⟩,h4⟩,h5⟩:=h;refine⟨h1,h2,h3,λ y hy=>?_,λ y hy=>?_⟩
 ·have:=h4 y hy;simp only[ZlH,uF]at this;omega
 ·have:=h5 y hy;simp only[ZlH,uF]at this;omega
end Go.Proofs.YtjjbhjnpeenbkaaGreatDoor
namespace Go.Proofs.YtjjbhjnpeenbkaaGreatDoor
open Go Go.PS Go.Proofs
abbrev Pr :=Int×Int
def w1 (f:Pr->Int):List Pr->Int
 |[]=>0
 |y::F=>f y+w1 f F
def W (f:Pr->Pr->Int)(F:List Pr):List Pr->Int
 |[]=>0
 |x::E=>w1 (f x) F+W f F E
theorem Zmr {f g:Pr->Int}:∀{F:List Pr},(∀y,y∈F->f y=g y)->w1 f F=w1 g F
 |[],_=>rfl
 |y::F,h=>by rw[w1,w1,h y (by simp),Zmr λ z hz=>h z (uO _ hz)]
theorem ZjC {f g:Pr->Pr->Int}{F:List Pr}:∀{E:List Pr},(∀x,x∈E->∀y,y∈F->f x y=g x y)->W f F E=W g F E
 |[],_=>rfl
 |x::E,h=>by rw[W,W,Zmr (h x (by simp)),ZjC λ z hz=>h z (uO _ hz)]
theorem Zvy (f g:Pr->Int):∀F:List Pr,w1 (λ y=>f y+g y) F=w1 f F+w1 g F
 |[]=>rfl
 |y::F=>by rw[w1,w1,w1,Zvy f g F];omega
theorem ZpQ (f g:Pr->Pr->Int)(F:List Pr):∀E:List Pr,W (λ x y=>f x y+g x y) F E=W f F E+W g F E
 |[]=>rfl
 |x::E=>by rw[W,W,W,Zvy,ZpQ f g F E];omega
theorem Zpu :∀F:List Pr,w1 (λ _=>0) F=0
 |[]=>rfl
 |y::F=>by rw[w1,Zpu F];rfl
theorem ZpV (F:List Pr):∀E:List Pr,W (λ _ _=>0) F E=0
 |[]=>rfl
 |x::E=>by rw[W,Zpu,ZpV F E];rfl
theorem ZpT (f:Nat->Pr->Pr->Int)(F E:List Pr):∀n,ZaK (λ k=>W (f k) F E) n=W (λ x y=>ZaK (λ k=>f k x y) n) F E
 |0=>by simp only[ZaK];rw[ZpV]
 |n+1=>by simp only[ZaK];rw[ZpT f F E n,ZpQ]
theorem ZpS (f:Pr->Pr->Int):∀E:List Pr,W f [] E=0
 |[]=>rfl
 |x::E=>by rw[W,ZpS f E];rfl
theorem ZpR (f:Pr->Pr->Int)(y:Pr)(F:List Pr):∀E:List Pr,W f (y::F) E=w1 (λ x=>f x y) E+W f F E
 |[]=>rfl
 |x::E=>by rw[W,W,w1,w1,ZpR f y F E];omega
theorem ZpU (f:Pr->Pr->Int):∀F E:List Pr,W f F E=W (λ x y=>f y x) E F
 |[],E=>by rw[ZpS,W]
 |y::F,E=>by rw[ZpR,W,ZpU f F E]
theorem Zvz (g:Pr->Pr)(f:Pr->Int):∀F:List Pr,w1 f (F.map g)=w1 (λ y=>f (g y)) F
 |[]=>rfl
 |y::F=>by rw[uT,w1,w1,Zvz g f F]
theorem ZmD (g:Pr->Pr)(f:Pr->Pr->Int)(F:List Pr):∀E:List Pr,W f (F.map g) (E.map g)=W (λ x y=>f (g x) (g y)) F E
 |[]=>rfl
 |x::E=>by rw[uT,W,W,Zvz,ZmD g f F E]
def ind (p:Prop)[Decidable p]:Int:=if p then 1 else 0
theorem Zvq (x:Int)(p:Pr->Bool)(g:Pr->Int):∀F:List Pr,((Zcu ((F.filter p).map g) x:Nat):Int)=w1 (λ y=>ind (p y=true/\g y<x)) F
 |[]=>rfl
 |y::F=>by
  have ih:=Zvq x p g F;rw[w1,<-ih];by_cases hp:p y=true
  ·rw[List.filter_cons_of_pos hp,uT,Zcu,Zcu,jP];by_cases hg:g y<x
   ·simp[ind,hp,hg];omega
   ·simp[ind,hp,hg]
  ·rw[List.filter_cons_of_neg hp];simp[ind,hp]
theorem ZmW (p q:Pr->Bool)(g:Pr->Int)(F:List Pr):∀E:List Pr,((ZcF ((E.filter p).map g) ((F.filter q).map g):Nat):Int)=W (λ x y=>ind (p x=true/\q y=true/\g y<g x)) F E
 |[]=>rfl
 |x::E=>by
  have ih:=ZmW p q g F E;rw[W,<-ih];by_cases hp:p x=true
  ·rw[List.filter_cons_of_pos hp,uT,ZcF,qQ,Zvq]
   congr 1
   refine Zmr λ y _=>?_
   simp[ind,hp]
  ·rw[List.filter_cons_of_neg hp];have:w1 (λ y=>ind (p x=true/\q y=true/\g y<g x)) F=0:=by
    rw[<-Zpu F];refine Zmr λ y _=>?_
    simp[ind,hp]
   rw[this];omega
theorem Zph (u:Int)(g:Nat->Int):∀n:Nat,(∀k:Nat,(k:Int)≠u->g k=0)->ZaK g n=if 0<=u/\u<n then g u.toNat else 0
 |0,_=>by rw[ZaK,if_neg (by omega)]
 |n+1,h=>by
  rw[ZaK,Zph u g n h];by_cases c:(n:Int)=u
  ·subst c;rw[if_neg (by omega),if_pos (by omega),uM];omega
  ·rw[h n c];by_cases c2:0<=u/\u<n
   ·rw[if_pos c2,if_pos (by omega)];omega
   ·rw[if_neg c2,if_neg (by omega)];rfl
theorem Zjc {y:List Int}(hn:y.Nodup){v:Int}{p:Nat}(h:y[p]? =some v):placeF y v=p:=by
 have hi:=ZjX hn h;rw[placeF];cases hf:y.findIdx? (λ x=>decide (x=v))with
 |none=>
  have:=List.findIdx?_eq_none_iff.1 hf v (uA h);simp at this
 |some k=>
  obtain⟨hk,hk2,_⟩:=List.findIdx?_eq_some_iff_getElem.1 hf;have hv:y[k]=v:=by simpa using hk2
  have:=ZjX hn (k:=k) (v:=v) (by rw[uR hk,hv]);rw[ZcU];omega
theorem Zkr {y:List Int}{v:Int}(h:v∉y):placeF y v=-1:=by
 rw[placeF,Ze3]
 ·rfl
 ·intro j z hz;simp only[qC];rintro rfl;exact h (uA hz)
theorem ZbT.placeF {ls:List (List Int)}(hn:ls.flatten.Nodup){v:Int}{r p i:Nat}{y:List Int}(h:ZbT ls v r p)(hy:ls[i]? =some y):Go.Proofs.YtjjbhjnpeenbkaaGreatDoor.placeF y v=if r=i then(p:Int)else -1:=by
 by_cases c:r=i
 ·subst c;rw[if_pos rfl];obtain⟨z,h1,h2⟩:=h;rw[hy]at h1;cases h1;exact Zjc ((jC.1 hn).1 y (uA hy)) h2
 ·rw[if_neg c];refine Zkr λ hv=>?_
  obtain⟨q,hq⟩:=yU hv;exact c (h.layer hn ⟨y,hy,hq⟩)
theorem Zow {ls:List (List Int)}(hn:ls.flatten.Nodup){x:Arc}{r p q i:Nat}{y z:List Int}(h:Joins ls x r p q)(hy:ls[i]? =some y)(hz:ls[i+1]? =some z):ZgA y z x=if r=i then[((p:Int),(q:Int))]else[]:=by
 rw[ZgA,h.up.placeF hn hy,h.dn.placeF hn hz];by_cases c:r=i
 ·simp[c]
 ·simp[c]
theorem Joins.lt {ls:List (List Int)}{x:Arc}{r p q:Nat}(h:Joins ls x r p q){y z:List Int}(hy:ls[r]? =some y)(hz:ls[r+1]? =some z):p<y.length/\q<z.length:=by
 obtain⟨⟨u,h1,h2⟩,⟨v,h3,h4⟩⟩:=h;rw[hy]at h1;cases h1;rw[hz]at h3;cases h3;exact⟨(uB.1 h2).1,(uB.1 h4).1⟩
section valid
variable {ls:List (List Int)}{ar:List Arc}(hn:ls.flatten.Nodup)(hj:∀x,x∈ar->∃r p q,Joins ls x r p q){i:Nat}{y z:List Int}(hy:ls[i]? =some y)(hz:ls[i+1]? =some z)
include hn hj hy hz
theorem ZBp :∀e,e∈ZbJ y z ar->0<=e.1/\e.1<y.length/\0<=e.2/\e.2<z.length:=by
 intro e he;obtain⟨x,hx,he⟩:=kU.1 he;obtain⟨r,p,q,h⟩:=hj x hx;rw[Zow hn h hy hz]at he;split at he
 ·rename_i c;subst c;have:=h.lt hy hz;rw[uS]at he;subst he;dsimp only;omega
 ·cases he
theorem Zq6 (p':Nat):Zd6 ls ar i ((i:Int)+1) ar.length p'=((ZbJ y z ar).filter λ e:Pr=>decide (e.1=(p':Int))).map (·.2):=by
 rw[Zd6,yE]
 induction ar with
 |nil=>rfl
 |cons x ar ih=>
  obtain⟨r,p,q,h⟩:=hj x (by simp);rw[gK,ih (λ w hw=>hj w (uO _ hw))];have e:ZbJ y z (x::ar)=ZgA y z x++ZbJ y z ar:=by simp[ZbJ]
  rw[e,gC,uQ]
  congr 1
  rw[Zow hn h hy hz,Ze2,h.up.ly hn,h.dn.ly hn,h.up.pl hn,h.dn.pl hn];by_cases c:r=i
  ·subst c;rw[if_pos ⟨rfl,by omega⟩,if_pos rfl];by_cases c2:(p:Int)=p'
   ·simp[c2]
   ·simp[c2]
  ·rw[if_neg (by omega),if_neg (by omega),if_neg c];rfl
theorem Zq7 (q':Nat):Zd6 ls ar ((i+1:Nat):Int) i ar.length q'=((ZbJ y z ar).filter λ e:Pr=>decide (e.2=(q':Int))).map (·.1):=by
 rw[Zd6,yE]
 induction ar with
 |nil=>rfl
 |cons x ar ih=>
  obtain⟨r,p,q,h⟩:=hj x (by simp);rw[gK,ih (λ w hw=>hj w (uO _ hw))];have e:ZbJ y z (x::ar)=ZgA y z x++ZbJ y z ar:=by simp[ZbJ]
  rw[e,gC,uQ]
  congr 1
  rw[Zow hn h hy hz,Ze2,h.up.ly hn,h.dn.ly hn,h.up.pl hn,h.dn.pl hn];by_cases c:r=i
  ·subst c;rw[if_neg (by omega),if_pos ⟨by omega,rfl⟩,if_pos rfl];by_cases c2:(q:Int)=q'
   ·simp[c2]
   ·simp[c2]
  ·rw[if_neg (by omega),if_neg (by omega),if_neg c];rfl
end valid
end Go.Proofs.YtjjbhjnpeenbkaaGreatDoor
namespace Go.Proofs.YtjjbhjnpeenbkaaGreatDoor
open Go Go.PS Go.Proofs
theorem Zh4 {p:Prop}[Decidable p](h:¬p):ind p=0:=by simp[ind,h]
theorem ZrQ {p:Prop}[Decidable p](h:p):ind p=1:=by simp[ind,h]
theorem ZiY {p q:Prop}[Decidable p][Decidable q](h:p↔q):ind p=ind q:=by
 by_cases hp:p
 ·rw[ZrQ hp,ZrQ (h.1 hp)]
 ·rw[Zh4 hp,Zh4 λ hq=>hp (h.2 hq)]
theorem ZE2 (own other:Pr->Int)(P:List Pr)(n:Nat)(hin:∀e,e∈P->0<=own e/\own e<n):
  ZaK (λ A=>ZaK (λ B=>W (λ x y=>ind (own x=(B:Int)/\own y=(A:Int)/\other y<other x)) P P) A) n=W (λ x y=>ind (own x<own y/\other y<other x)) P P:=by
 simp only[ZpT];refine ZjC λ x hx y hy=>?_
 have h1:=hin x hx;have h2:=hin y hy;have hA:∀A:Nat,ZaK (λ B:Nat=>ind (own x=(B:Int)/\own y=(A:Int)/\other y<other x)) A=ind (own x<A/\own y=(A:Int)/\other y<other x):=λ A=>by
  rw[Zph (own x) _ A λ k hk=>Zh4 λ h=>hk h.1.symm];by_cases c:own x<A
  ·rw[if_pos ⟨h1.1,c⟩];refine ZiY ?_;constructor
   ·rintro⟨_,h⟩;exact⟨c,h⟩
   ·rintro⟨_,h⟩;exact⟨by omega,h⟩
  ·rw[if_neg (λ h=>c h.2),Zh4 λ h=>c h.1]
 simp only[hA];rw[Zph (own y) _ n λ k hk=>Zh4 λ h=>hk h.2.1.symm,if_pos h2];refine ZiY ?_;constructor
 ·rintro⟨h,_,h'⟩;exact⟨by omega,h'⟩
 ·rintro⟨h,h'⟩;exact⟨by omega,by omega,h'⟩
theorem Zj7 (f:Nat->List Int){n k:Nat}(h:k<n):Zaw ((List.range n).map f) k=f k:=by simp[Zaw,h]
theorem Zna {E:List (List Int)}{u v:Nat}(hu:u<E.length)(hv:v<E.length):Zak (Zc8 E) u v=Zd2 E u v:=by
 rw[Zak,Zc8,Zj7 _ hu,at0,uM];simp[hv]
structure Near (a:Lv)(i:Nat)(y z:List Int):Prop where
 ok:Zar a=true
 hy:a.2.1[i]? =some y
 hz:a.2.1[i+1]? =some z
namespace Near
variable {a:Lv}{i:Nat}{y z:List Int}
theorem joins (h:Near a i y z):∀x,x∈a.2.2.1->∃r p q,Joins a.2.1 x r p q:=λ x hx=>by
 obtain⟨k,hk⟩:=yU hx;exact Zpr h.ok hk
theorem lt (h:Near a i y z):i+1<a.2.1.length:=(uB.1 h.hz).1
theorem ins (h:Near a i y z):∀e,e∈ZbJ y z a.2.2.1->0<=e.1/\e.1<y.length/\0<=e.2/\e.2<z.length:=ZBp (Zfj h.ok) h.joins h.hy h.hz
theorem matD (h:Near a i y z):ZaU a i ((i:Int)+1)=Zc8 (Zbm a.2.1 a.2.2.1 i ((i:Int)+1) y.length):=by
 have hl:=h.lt;have hok:Zec a i ((i:Int)+1)=true:=by
  simp[Zec,h.ok];omega
 rw[ZaU,if_pos hok,ZcM,uM,h.hy];rfl
theorem matU (h:Near a i y z):ZaU a ((i:Int)+1) i=Zc8 (Zbm a.2.1 a.2.2.1 ((i+1:Nat):Int) i z.length):=by
 have hl:=h.lt;have hok:Zec a ((i:Int)+1) i=true:=by
  simp[Zec,h.ok];omega
 rw[ZaU,if_pos hok,ZcM,show((i:Int)+1).toNat=i+1 by omega,h.hz];rfl
theorem lenD (h:Near a i y z):(ZaU a i ((i:Int)+1)).length=y.length:=by rw[h.matD];simp[Zc8,Zbm]
theorem cellD (h:Near a i y z){u v:Nat}(hu:u<y.length)(hv:v<y.length):Zak (ZaU a i ((i:Int)+1)) u v=if u=v then 0 else W (λ x w=>ind (x.1=(u:Int)/\w.1=(v:Int)/\w.2<x.2)) (ZbJ y z a.2.2.1) (ZbJ y z a.2.2.1):=by
 rw[h.matD,Zna (by simpa[Zbm]using hu) (by simpa[Zbm]using hv),Zd2];split
 ·rfl
 ·rw[Zbm,Zj7 _ hu,Zj7 _ hv,Zq6 (Zfj h.ok) h.joins h.hy h.hz,Zq6 (Zfj h.ok) h.joins h.hy h.hz,ZmW];simp only[uF]
theorem cellU (h:Near a i y z){u v:Nat}(hu:u<z.length)(hv:v<z.length):Zak (ZaU a ((i:Int)+1) i) u v=if u=v then 0 else W (λ x w=>ind (x.2=(u:Int)/\w.2=(v:Int)/\w.1<x.1)) (ZbJ y z a.2.2.1) (ZbJ y z a.2.2.1):=by
 rw[h.matU,Zna (by simpa[Zbm]using hu) (by simpa[Zbm]using hv),Zd2];split
 ·rfl
 ·rw[Zbm,Zj7 _ hu,Zj7 _ hv,Zq7 (Zfj h.ok) h.joins h.hy h.hz,Zq7 (Zfj h.ok) h.joins h.hy h.hz,ZmW];simp only[uF]
abbrev cr (_:Near a i y z):Int:=W (λ x w=>ind (x.1<w.1/\w.2<x.2)) (ZbJ y z a.2.2.1) (ZbJ y z a.2.2.1)
theorem between (h:Near a i y z):Zb4 a i=h.cr:=by
 have hl:=h.lt;rw[Zb4,if_neg (by simp only[Zkg,uF];omega),Zpn,h.lenD];rw[Zpf (g:=λ A=>ZaK (λ B=>W (λ x w=>ind (x.1=(B:Int)/\w.1=(A:Int)/\w.2<x.2)) (ZbJ y z a.2.2.1) (ZbJ y z a.2.2.1)) A) _ λ A hA=>Zpf _ λ B hB=>by rw[h.cellD (by omega) hA,if_neg (by omega)]];exact ZE2 (λ e=>e.1) (λ e=>e.2) _ _ λ e he=>⟨(h.ins e he).1,(h.ins e he).2.1⟩
end Near
namespace Near
variable {a:Lv}{i:Nat}{y z:List Int}
end Near
theorem Zoa {a:Lv}(h:Zar a=true){i:Nat}(hi:i+1<a.2.1.length):∃y z,Near a i y z:=by
 obtain⟨y,hy⟩:=Zac (l:=a.2.1) (k:=i) (by omega);obtain⟨z,hz⟩:=Zac hi;exact⟨y,z,h,hy,hz⟩
end Go.Proofs.YtjjbhjnpeenbkaaGreatDoor
namespace Go.Proofs.YtjjbhjnpeenbkaaGreatDoor
open Go Go.PS Go.Proofs
set_option maxRecDepth 100000
attribute [local irreducible] Zad wpG Zaa Zag
end Go.Proofs.YtjjbhjnpeenbkaaGreatDoor
namespace Go.Proofs.YtjjbhjnpeenbkaaGreatDoor
open Go Go.PS Go.Proofs
theorem ZuO {l m:List Int}(h:l.Perm m):ZaM l=ZaM m:=
 Bp (le:=(·<=·)) (λ a b _ _ h1 h2=>Int.le_antisymm h1 h2) (Zo3 l) (Zo3 m) ((ZhC l).trans (h.trans (ZhC m).symm))
namespace Near
variable {a:Lv}{i:Nat}{y z:List Int}
end Near
namespace Near
variable {a:Lv}{i k:Nat}{y z:List Int}
end Near
end Go.Proofs.YtjjbhjnpeenbkaaGreatDoor
namespace Go.Proofs.YtjjbhjnpeenbkaaGreatDoor
open Go Go.PS Go.Proofs
set_option maxRecDepth 100000
attribute [local irreducible] Zad wpG Zaa Zag
section acc
variable {own oth:Pr->Int}{E:List Pr}{u v:Nat}{p q:Pr}
end acc
end Go.Proofs.YtjjbhjnpeenbkaaGreatDoor
namespace Go.Proofs.YtjjbhjnpeenbkaaGreatDoor
open Go Go.PS Go.Proofs
open Go.Bd (Zaq ZgL ZgM Zpb)
theorem Zpa {c d:Nat->Nat->Int}:∀{l:List Nat},l.Nodup->(∀u,u∈l->∀v,v∈l->u≠v->c u v=d u v)->Zaq c l=Zaq d l
 |[],_,_=>rfl
 |u::l,hn,h=>by
  obtain⟨h1,h2⟩:=yW.1 hn;have e:l.map (c u)=l.map (d u):=yM λ v hv=>h u (by simp) v (uO _ hv) λ he=>h1 (he▸hv)
  rw[Zaq,Zaq,e,Zpa h2 λ u hu v hv=>h u (uO _ hu) v (uO _ hv)]
theorem Zu3 (f:Nat->Nat->Pr->Int)(l:List Nat):∀F:List Pr,Zaq (λ u v=>w1 (f u v) F) l=w1 (λ y=>Zaq (λ u v=>f u v y) l) F
 |[]=>by simp only[w1];exact ZgM l
 |y::F=>by simp only[w1];rw[ZgL,Zu3 f l F]
theorem Zu0 (f:Nat->Nat->Pr->Pr->Int)(l:List Nat)(F:List Pr):∀E:List Pr,Zaq (λ u v=>W (f u v) F E) l=W (λ x y=>Zaq (λ u v=>f u v x y) l) F E
 |[]=>by simp only[W];exact ZgM l
 |x::E=>by simp only[W];rw[ZgL,Zu3,Zu0 f l F E]
theorem Zu2 {own oth:Pr->Int}{P:List Pr}{o:List Nat}{c:Nat->Nat->Int}(hn:o.Nodup)(hin:∀e,e∈P->0<=own e/\(own e).toNat∈o)
  (hc:∀u,u∈o->∀v,v∈o->u≠v->c u v=W (λ x w=>ind (own x=(u:Int)/\own w=(v:Int)/\oth w<oth x)) P P):
  Zaq c o=W (λ x w=>ind (o.idxOf (own x).toNat<o.idxOf (own w).toNat/\oth w<oth x)) P P:=by
 rw[Zpa hn hc,Zu0];refine ZjC λ x hx w hw=>?_
 obtain⟨x1,x2⟩:=hin x hx;obtain⟨y1,y2⟩:=hin w hw;have e:∀u v:Nat,ind (own x=(u:Int)/\own w=(v:Int)/\oth w<oth x)=if u=(own x).toNat/\v=(own w).toNat then ind (oth w<oth x)else 0:=λ u v=>by
  by_cases h:u=(own x).toNat/\v=(own w).toNat
  ·rw[if_pos h];exact ZiY ⟨λ h2=>h2.2.2,λ h2=>⟨by omega,by omega,h2⟩⟩
  ·rw[if_neg h];exact Zh4 λ h2=>h (by omega)
 have e2:(λ u v:Nat=>ind (own x=(u:Int)/\own w=(v:Int)/\oth w<oth x))=λ u v=>if u=(own x).toNat/\v=(own w).toNat then ind (oth w<oth x)else 0:=funext λ u=>funext λ v=>e u v
 rw[e2,Zpb _ _ _ o hn x2 y2];by_cases h:o.idxOf (own x).toNat<o.idxOf (own w).toNat
 ·rw[if_pos h];exact ZiY ⟨λ h2=>⟨h,h2⟩,λ h2=>h2.2⟩
 ·rw[if_neg h];exact(Zh4 λ h2=>h h2.1).symm
end Go.Proofs.YtjjbhjnpeenbkaaGreatDoor
namespace Go.Proofs.YtjjbhjnpeenbkaaGreatDoor
open Go Go.PS Go.Proofs
open Go.Bd (Zaq Part Zgu)
def ZaO (y:List Int)(o:List Nat):List Int:=o.map λ k=>(y[k]?).getD 0
theorem ZoC (y:List Int)(o:List Nat):(ZaO y o).length=o.length:=by simp[ZaO]
theorem Ztt {y:List Int}{o:List Nat}{p:Nat}{v:Int}(hp:p∈o)(h:y[p]? =some v):(ZaO y o)[o.idxOf p]? =some v:=by
 have hl:=List.idxOf_lt_length_iff.2 hp;have hg:o[o.idxOf p]? =some p:=by
  rw[uR hl,zN]
 rw[ZaO,uI,hg,qB,h];rfl
theorem Ztu {y:List Int}{o:List Nat}(h:Part y.length 0 o){v:Int}:v∈ZaO y o↔v∈y:=by
 constructor
 ·intro hv;obtain⟨k,hk,rfl⟩:=uP.1 hv;have:=h.lt k hk;rw[uR this];exact jO this
 ·intro hv;obtain⟨p,hp⟩:=yU hv;have hlt:=(uB.1 hp).1;have:=Ztt (Zgu y.length h.nd h.lt (by have:=h.len;omega) p hlt) hp;exact uA this
theorem Ztv {y:List Int}{o:List Nat}(hy:y.Nodup)(h:Part y.length 0 o):(ZaO y o).Nodup:=by
 refine List.pairwise_map.2 (h.nd.imp_of_mem λ{a b} ha hb hne he=>hne ?_);have h1:=h.lt a ha;have h2:=h.lt b hb;rw[uR h1,uR h2]at he;exact(List.getElem_inj hy).1 he
theorem Ztw {y:List Int}{o:List Nat}(hy:y.Nodup)(h:Part y.length 0 o)(v:Int):placeF (ZaO y o) v=if 0<=placeF y v then((o.idxOf (placeF y v).toNat:Nat):Int)else -1:=by
 by_cases hv:v∈y
 ·obtain⟨p,hp⟩:=yU hv;have hlt:=(uB.1 hp).1;rw[Zjc (Ztv hy h) (Ztt (Zgu y.length h.nd h.lt (by have:=h.len;omega) p hlt) hp),Zjc hy hp,if_pos (by omega),uM]
 ·rw[Zkr (λ h2=>hv ((Ztu h).1 h2)),Zkr hv,if_neg (by omega)]
theorem ZBr {y z:List Int}{o:List Nat}(hy:y.Nodup)(h:Part y.length 0 o)(ar:List Arc):ZbJ (ZaO y o) z ar=(ZbJ y z ar).map λ e=>(((o.idxOf e.1.toNat:Nat):Int),e.2):=by
 rw[ZbJ,ZbJ,List.map_flatMap]
 congr 1
 funext x
 rw[ZgA,ZgA,Ztw hy h];by_cases c:0<=placeF y x.1
 ·rw[if_pos c];by_cases c2:0<=placeF z x.2
  ·rw[if_pos ⟨by omega,c2⟩,if_pos ⟨c,c2⟩];rfl
  ·rw[if_neg (λ h=>c2 h.2),if_neg (λ h=>c2 h.2)];rfl
 ·rw[if_neg c,if_neg (λ h=>by omega),if_neg (λ h=>c h.1)];rfl
theorem ZBq {y z:List Int}{o:List Nat}(hz:z.Nodup)(h:Part z.length 0 o)(ar:List Arc):ZbJ y (ZaO z o) ar=(ZbJ y z ar).map λ e=>(e.1,((o.idxOf e.2.toNat:Nat):Int)):=by
 rw[ZbJ,ZbJ,List.map_flatMap]
 congr 1
 funext x
 rw[ZgA,ZgA,Ztw hz h];by_cases c:0<=placeF y x.1
 ·by_cases c2:0<=placeF z x.2
  ·rw[if_pos c2,if_pos ⟨c,by omega⟩,if_pos ⟨c,c2⟩];rfl
  ·rw[if_neg c2,if_neg (λ h=>by omega),if_neg (λ h=>c2 h.2)];rfl
 ·rw[if_neg (λ h=>c h.1),if_neg (λ h=>c h.1)];rfl
theorem Near.perm_up {a a':Lv}{i:Nat}{y z:List Int}{o:List Nat}(h:Near a i y z)(h':Near a' i (ZaO y o) z)(har:a'.2.2.1=a.2.2.1)(ho:Part y.length 0 o):
  Zb4 a' i=Zaq (λ u v=>Zak (ZaU a i ((i:Int)+1)) u v) o:=by
 have hy:y.Nodup:=(jC.1 (Zfj h.ok)).1 y (uA h.hy);have hin:=h.ins;rw[h'.between,Near.cr,har,ZBr hy ho,ZmD];rw[Zu2 (own:=λ e=>e.1) (oth:=λ e=>e.2) (P:=ZbJ y z a.2.2.1) ho.nd (λ e he=>⟨(hin e he).1,Zgu y.length ho.nd ho.lt (by have:=ho.len;omega) _ (by have:=hin e he;omega)⟩)
  (λ u hu v hv hne=>by rw[h.cellD (ho.lt u hu) (ho.lt v hv),if_neg hne])]
 exact ZjC λ x _ w _=>ZiY ⟨λ h2=>⟨by have:=h2.1;dsimp only at this;omega,h2.2⟩,λ h2=>⟨by have:=h2.1;dsimp only;omega,h2.2⟩⟩
theorem Near.perm_dn {a a':Lv}{i:Nat}{y z:List Int}{o:List Nat}(h:Near a i y z)(h':Near a' i y (ZaO z o))(har:a'.2.2.1=a.2.2.1)(ho:Part z.length 0 o):
  Zb4 a' i=Zaq (λ u v=>Zak (ZaU a ((i:Int)+1) i) u v) o:=by
 have hz:z.Nodup:=(jC.1 (Zfj h.ok)).1 z (uA h.hz);have hin:=h.ins;rw[h'.between,Near.cr,har,ZBq hz ho,ZmD,ZpU];rw[Zu2 (own:=λ e=>e.2) (oth:=λ e=>e.1) (P:=ZbJ y z a.2.2.1) ho.nd (λ e he=>⟨(hin e he).2.2.1,Zgu z.length ho.nd ho.lt (by have:=ho.len;omega) _ (by have:=hin e he;omega)⟩)
  (λ u hu v hv hne=>by rw[h.cellU (ho.lt u hu) (ho.lt v hv),if_neg hne])]
 exact ZjC λ x _ w _=>ZiY ⟨λ h2=>⟨by have:=h2.2;dsimp only at this;omega,h2.1⟩,λ h2=>⟨h2.2,by have:=h2.1;dsimp only;omega⟩⟩
end Go.Proofs.YtjjbhjnpeenbkaaGreatDoor
namespace Go.Proofs.YtjjbhjnpeenbkaaGreatDoor
open Go Go.PS Go.Proofs
open Go.Bd (Zaq ZgL ZgM Part Zgu)
def Zcc (a:Lv)(i:Nat)(y:List Int):Lv:=(a.1,a.2.1.set i y,a.2.2.1,a.2.2.2)
theorem Zt0 (n:Nat):Part n 0 (List.range n):=⟨kT,λ v hv=>uZ.1 hv,by simp⟩
theorem ZBy (y:List Int):ZaO y (List.range y.length)=y:=by
 refine qA λ k=>?_
 rw[ZaO,uI];by_cases h:k<y.length
 ·rw[yR h,qB,uR h];rfl
 ·rw[uN (by simpa using h),uN (by omega)];rfl
def ZhT (a:Lv)(i:Nat)(u v:Nat):Int:=Zak (ZaU a i ((i:Int)-1)) u v+Zak (ZaU a i ((i:Int)+1)) u v
theorem Zu7 {f g:Nat->Int}(i:Nat)(h:∀j,j≠i->j+1≠i->f j=g j):∀n,ZaK f n=ZaK g n+(if i<n then f i-g i else 0)+(if 0<i/\i<=n then f (i-1)-g (i-1)else 0)
 |0=>by simp only[ZaK];rw[if_neg (by omega),if_neg (by omega)];rfl
 |n+1=>by
  rw[ZaK,ZaK,Zu7 i h n];by_cases c1:n=i
  ·subst c1
   (repeat' split)<;>omega
  ·by_cases c2:n+1=i
   ·subst c2;simp only[Am]
    (repeat' split)<;>omega
   ·rw[h n c1 c2]
    (repeat' split)<;>omega
theorem Zlc {a:Lv}{j:Nat}(h:¬j+1<a.2.1.length):Zb4 a j=0:=by
 rw[Zb4,if_pos (by simp only[Zkg,uF];omega)]
theorem ZB4 {a:Lv}{i:Nat}{y:List Int}{o:List Nat}(hv:Zar a=true)(hv':Zar (Zcc a i (ZaO y o))=true)(hy:a.2.1[i]? =some y)(ho:Part y.length 0 o):
  Zbc (Zcc a i (ZaO y o))-Zbc a=Zaq (ZhT a i) o-Zaq (ZhT a i) (List.range y.length):=by
 have hil:=(uB.1 hy).1;have hlen:(Zcc a i (ZaO y o)).2.1.length=a.2.1.length:=yP;have hget:∀j,j≠i->(Zcc a i (ZaO y o)).2.1[j]? =a.2.1[j]? :=λ j hj=>jJ (Ne.symm hj)
 have hget2:(Zcc a i (ZaO y o)).2.1[i]? =some (ZaO y o):=gQ hil;have hrp:=Zt0 y.length;have hpr:=ZBy y
 have he:∀j:Nat,j≠i->j+1≠i->Zb4 (Zcc a i (ZaO y o)) j=Zb4 a j:=λ j h1 h2=>by
  by_cases c:j+1<a.2.1.length
  ·obtain⟨p,q,hn⟩:=Zoa hv c;have hn':Near (Zcc a i (ZaO y o)) j p q:=⟨hv',(hget j h1).trans hn.hy,(hget (j+1) h2).trans hn.hz⟩;rw[hn.between,hn'.between];rfl
  ·rw[Zlc c,Zlc (by rw[hlen];exact c)]
 have hup:Zb4 (Zcc a i (ZaO y o)) i-Zb4 a i=Zaq (Zak (ZaU a i ((i:Int)+1))) o-Zaq (Zak (ZaU a i ((i:Int)+1))) (List.range y.length):=by
  by_cases c:i+1<a.2.1.length
  ·obtain⟨p,z,hn⟩:=Zoa hv c;obtain rfl:p=y:=by have:=hn.hy;rw[hy]at this;cases this;rfl
   have hn':Near (Zcc a i (ZaO p o)) i (ZaO p o) z:=⟨hv',hget2,(hget (i+1) (by omega)).trans hn.hz⟩;have hn0:Near a i (ZaO p (List.range p.length)) z:=by rw[hpr];exact hn
   rw[hn.perm_up hn' rfl ho,hn.perm_up hn0 rfl hrp]
  ·have hm:ZaU a i ((i:Int)+1)=[]:=by
    rw[ZaU,if_neg];intro hh;simp only[Zec,uL,uF]at hh;omega
   have hz:Zak (ZaU a i ((i:Int)+1))=λ _ _=>0:=by funext u v;rw[hm];rfl
   rw[hz,ZgM,ZgM,Zlc c,Zlc (by rw[hlen];exact c)]
 have hdn:(if 0<i/\i<=a.2.1.length then Zb4 (Zcc a i (ZaO y o)) ((i-1:Nat):Int)-Zb4 a ((i-1:Nat):Int)else 0)=
   Zaq (Zak (ZaU a i ((i:Int)-1))) o-Zaq (Zak (ZaU a i ((i:Int)-1))) (List.range y.length):=by
  by_cases c:0<i
  ·obtain⟨k,rfl⟩:∃k,i=k+1:=⟨i-1,by omega⟩;rw[if_pos ⟨c,by omega⟩,Am,show((k+1:Nat):Int)-1=(k:Int) by omega,show((k+1:Nat):Int)=(k:Int)+1 by omega];obtain⟨x,p,hn⟩:=Zoa hv (i:=k) (by omega);obtain rfl:p=y:=by have:=hn.hz;rw[hy]at this;cases this;rfl
   have hn':Near (Zcc a (k+1) (ZaO p o)) k x (ZaO p o):=⟨hv',(hget k (by omega)).trans hn.hy,hget2⟩;have hn0:Near a k x (ZaO p (List.range p.length)):=by rw[hpr];exact hn
   rw[hn.perm_dn hn' rfl ho,hn.perm_dn hn0 rfl hrp]
  ·obtain rfl:i=0:=by omega
   have hm:ZaU a ((0:Nat):Int) (((0:Nat):Int)-1)=[]:=by
    rw[ZaU,if_neg];intro hh;simp only[Zec,uL,uF]at hh;omega
   have hz:Zak (ZaU a ((0:Nat):Int) (((0:Nat):Int)-1))=λ _ _=>0:=by funext u v;rw[hm];rfl
   rw[hz,ZgM,ZgM,if_neg (by omega)];rfl
 have hb:ZhT a i=λ u v=>Zak (ZaU a i ((i:Int)-1)) u v+Zak (ZaU a i ((i:Int)+1)) u v:=rfl
 rw[Zbc,Zbc,hlen,Zu7 i he a.2.1.length,if_pos hil,hdn,hup,hb,ZgL,ZgL];omega
end Go.Proofs.YtjjbhjnpeenbkaaGreatDoor
namespace Go.Proofs.YtjjbhjnpeenbkaaGreatDoor
open Go Go.PS Go.Proofs
theorem ZFt {a:Lv}(h:Zar a=true):∀u:Int,0<=u->u<(Zas (ZaL a) (ZaE a).2 (ZaE a).2.length).length->Zav a.2.1 u=at0 (Zas (ZaL a) (ZaE a).2 (ZaE a).2.length) u:=by
 obtain⟨b,hm,hr⟩:=Zgf h;obtain⟨_,_,hg,ho⟩:=Zhj hr;intro u h0 h1;have hl:(Zas (ZaL a) (ZaE a).2 (ZaE a).2.length).length=tot a.2.1:=by rw[ho,Zel]
 obtain⟨n,rfl⟩:∃n:Nat,u=n:=⟨u.toNat,by omega⟩;have:=Zjj (c:=tot a.2.1) (v:=n) (by omega) a.2.1;rw[<-ho,ZaG (by omega),yI]at this;exact this.symm
theorem Zvv {a:Lv}(h:Zar a=true){e:Nat}{c:List Int}(hc:a.2.2.2[e]? =some c):
  2<=c.length/\0<=Zav a.2.1 (at0 c ((0:Nat):Int))/\∀i:Nat,i<c.length->0<=at0 c i/\at0 c i<tot a.2.1/\Zav a.2.1 (at0 c i)=Zav a.2.1 (at0 c ((0:Nat):Int))+i/\Zav a.2.1 (at0 c i)<a.2.1.length:=by
 have hlay:=ZFt h;obtain⟨b,hm,hr⟩:=Zgf h;obtain⟨_,_,hg,ho⟩:=Zhj hr;have hl:(Zas (ZaL a) (ZaE a).2 (ZaE a).2.length).length=tot a.2.1:=by rw[ho,Zel]
 have hcs:a.2.2.2=Za8 (ZaL a) (ZaE a).2 (ZaE a).2.length:=qU (λ x:Lv=>x.2.2.2) hm;rw[hcs]at hc;have hel:=(uB.1 hc).1;rw[ZiN _ _ _ (uJ _)]at hel;obtain⟨x,hx⟩:=Zac hel;rw[Zlm hx _ hel (uJ _),yI]at hc;subst hc;have hcl:(ZaB (ZaL a) (Zas (ZaL a) (ZaE a).2 e).length x).length=ZaI (ZaL a) x+2:=by
  rw[ZaB,uG,Zgn];rfl
 have c0:=b.chain_at hx (j:=0) (by omega);have hrk:=b.rk x.1.toNat;have hin:=b.ends hx;rw[show((x.1.toNat:Nat):Int)=x.1 by omega]at hrk;have l0:=hlay _ c0.1 c0.2.1;refine⟨by omega,by omega,λ i hi=>?_⟩;have ci:=b.chain_at hx (j:=i) (by omega);have li:=hlay _ ci.1 ci.2.1;have hmem:=Ze9.1 (show 0<=Zav a.2.1 (at0 (ZaB (ZaL a) (Zas (ZaL a) (ZaE a).2 e).length x) i) by omega);obtain⟨r,p,hlie⟩:=ZlE hmem;have e3:=hlie.lay (Zfj h);have hlt:r<a.2.1.length:=by
  obtain⟨y,hy,_⟩:=hlie;exact(uB.1 hy).1
 exact⟨ci.1,by omega,by omega,by omega⟩
abbrev Pn :=Int×Int
def Zct (out:List Pn)(p:Pn):List Pn:=if out.getLast?=some p then out else out++[p]
def Zbo (c x t b:List Int)(k:Nat):Nat->List Pn
 |0=>[]
 |i+1=>
  let o:=if 0<i then Zct (Zbo c x t b k i) (at0 x (at0 c i),at0 t ((k+i:Nat):Int))else Zbo c x t b k i
  if i+1<c.length then Zct o (at0 x (at0 c i),at0 b ((k+i:Nat):Int))else o
def Ziu (l:List Pn):Prop:=∀(i:Nat) p q,l[i]? =some p->l[i+1]? =some q->p.2<=q.2/\p≠q
theorem ZuW (l:List Pn)(p:Pn):(Zct l p).getLast?=some p:=by
 unfold Zct;split
 ·assumption
 ·simp
structure Ordered (t b:List Int)(n:Nat):Prop where
 own:∀k,k<n->at0 t ((k:Nat):Int)<=at0 b ((k:Nat):Int)
 next:∀k,k+1<n->at0 b ((k:Nat):Int)<=at0 t ((k+1:Nat):Int)
theorem Ztn (c x t b:List Int)(k:Nat):∀i,(Zbo c x t b k i).length<=2*i
 |0=>uJ _
 |i+1=>by
  have ih:=Ztn c x t b k i;have hs:∀l p,(Zct l p).length<=l.length+1:=λ l p=>by unfold Zct;split<;>simp
  have h1:=hs (Zbo c x t b k i) (at0 x (at0 c i),at0 t ((k+i:Nat):Int));have h2:=hs (if 0<i then Zct (Zbo c x t b k i) (at0 x (at0 c i),at0 t ((k+i:Nat):Int))else Zbo c x t b k i) (at0 x (at0 c i),at0 b ((k+i:Nat):Int));simp only[Zbo];split<;>split at h2<;>split<;>omega
def coB (x:Int):Bool:=decide (x< -268435456)||decide (268435456<x)
def Zjs (t b:List Int)(k:Nat):Bool:=decide (at0 b (k:Int)<at0 t (k:Int))||(decide (0<k)&&decide (at0 t (k:Int)<at0 b ((k-1:Nat):Int)))
def Zn1 (a:Lv)(x t b:List Int):Bool:=decide (x.length=tot a.2.1/\t.length=a.2.1.length/\b.length=a.2.1.length)
def Zdh (a:Lv)(x t b:List Int):Bool:=Zar a&&Zn1 a x t b&& !x.any coB&& !t.any coB&& !b.any coB&& !(List.range t.length).any (Zjs t b)
theorem Zrs {a:Lv}{x t b:List Int}(h:Zdh a x t b=true):Zar a=true/\x.length=tot a.2.1/\t.length=a.2.1.length/\b.length=a.2.1.length:=by
 simp only[Zdh,uL,yC,Zn1,uF]at h;exact⟨h.1.1.1.1.1,h.1.1.1.1.2⟩
set_option maxRecDepth 100000
theorem Zdx {n:Nat}{cs:List D}(h:ZbD Tryz.prog (n+1) 3 cs):∃m:Int,cs=[.int m]:=by
 have hu:Tryz.prog.underlying 3=some (.int .i64):=by kernel_rfl
 simp only[ZbD,hu]at h;obtain⟨m,rfl,_⟩:=h;exact⟨m,rfl⟩
end Go.Proofs.YtjjbhjnpeenbkaaGreatDoor
