/- Crossings: the reference's Ends, Between, Total, Straight. -/
import Derived.Test.YtjjbhjnpeenbkaaGreatDoorQ
import Derived.Test.YtjjbhjnpeenbkaaGreatDoorPSBd
set_option linter.unusedSimpArgs false
set_option linter.unusedVariables false
set_option maxHeartbeats 16000000
namespace Go.Proofs.YtjjbhjnpeenbkaaGreatDoor
open Go Go.PS Go.Proofs
set_option maxRecDepth 100000
attribute [local irreducible] ao wpG ah ax
theorem Gq (l:List Int)(v:Int):ah Tryz.prog 257 [aj l, .int v] (.int (placeF l v)):=by
 refine kE Tryz.func257 ?_;intro Y B X N;have Q:=bI 0 Y rfl;rw[uC]at Q;refine ac kO aa aa ?_;refine aq (λ(k:Nat)=>k<=l.length/\∀(j:Nat) y,j<k->l[j]? =some y->(decide (y=v))=false) (λ k=>[(0, .d (aj l)),(1, .int v),(5, .int k)]) (λ k=>[]) (λ k=>l.length-k) 0 ?_ ?_ ?_
 ·exact⟨uF _,λ j y h=>xA⟩
 ·exact kN aa []
 ·rintro k ⟨O,Z⟩;rcases uD k l.length with V|R
  ·obtain⟨p,U⟩:=ak V;refine kw kO (ae U) aa ?_
   repeat' first|exact True.intro|refine Bn.mk ?_ ?_|intro T
   ·refine ap ?_;rw[placeF,jc U (by simpa using T) Z];rfl
   ·refine⟨k+1,?_,eL [] _ _ (by refine⟨?_,?_⟩<;>(repeat' first|exact fmn|refine fmc ⟨(by first|rfl|(simp(disch:=omega) only[go_sem,simprocAttr,inL];first|done|omega|(congr 1;done))),?_⟩);done),?_⟩
    ·exact⟨xA,b9 Z U (by simpa using T)⟩
    ·omega
  ·refine ac kO aa aa ?_;refine ap ?_;rw[placeF,ka (λ j y S=>Z j y (by have:=(uB.1 S).1;omega) S)];rfl
def jk (y z:List Int)(x:Arc):List (Int×Int):=if 0<=placeF y x.1/\0<=placeF z x.2 then[(placeF y x.1,placeF z x.2)]else[]
def bf (y z:List Int)(Z:List Arc):List (Int×Int):=Z.flatMap (jk y z)
abbrev oM (p:Int×Int):D:= .sl [.int p.1, .int p.2]
abbrev lr (l:List (Int×Int)):D:= .sl (l.map oM)
theorem rZ (y z:List Int)(Z:List Arc):(bf y z Z).length<=Z.length:=by
 induction Z with
 |nil=>simp[bf]
 |cons x Z Y=>
  have:(jk y z x).length<=1:=by unfold jk;split<;>simp
  simp only[bf,qM,uH,uV]at Y|-;omega
theorem u9 (a:Lv)(i:Nat)(y z:List Int)(L:a.2.1[i]? =some y)(O:a.2.1[i+1]? =some z)(E:a.2.2.1.length<=1000):ah Tryz.prog 230 [lvD a, .int i] (lr (bf y z a.2.2.1)):=by
 have G:i+1<a.2.1.length:=(uB.1 O).1;obtain⟨n,F,Z,I⟩:=a;dsimp only at*;refine kE Tryz.func230 ?_;intro h B X A;have M:=cO 0 1 h rfl rfl;rw[uC]at M;dsimp only at M;refine ac (cE (Nat.beq 9) (b:=true)) aa aa ?_;refine aq (λ(k:Nat)=>k<=Z.length) (λ k=>[(1, .int i),(2, .ptr 2 0 0 0),(5, .ref 901 1 0 (bf y z (Z.take k)).length (bf y z (Z.take k)).length),(6, .int k)]) (λ k=>[(2, .cells [.int n, .d (am F), .d (aw Z), .d (am I)]),(901, .row 1 ((bf y z (Z.take k)).map oM))]) (λ k=>Z.length-k) 0 ?_ ?_ ?_
 ·exact uF _
 ·exact kN (aE @yQ.{0} @bf.eq_1 @kI.{0,0} @uU.{0}) [(901,9)]
 ·intro k C;have T:=rZ y z (Z.take k);rw[yA]at T;rcases uD k Z.length with S|H
  ·obtain⟨x,Q⟩:=ak S;have Y:bf y z (Z.take (k+1))=bf y z (Z.take k)++jk y z x:=by rw[aM Q,bf,zE];simp[bf]
   have K:=Gq y x.1;have J:=Gq z x.2;have N:((i:Int)+1).toNat=i+1:=xA;rw[jk]at Y;generalize placeF y x.1=u at*;generalize placeF z x.2=v at*;generalize bf y z (Z.take k)=R at*;by_cases V:0<=u<;>by_cases U:0<=v
   ·rw[if_pos ⟨V,U⟩]at Y;refine ac kO (bV Q L O N V U @aA) (ai K J) ?_;refine⟨k+1,?_,kN (aQ Y @uO.{0,0} @uH.{0} @uV.{0} @uU.{0}) [(901,53)],?_⟩
    ·omega
    ·omega
   all_goals
    rw[if_neg xA,yS]at Y;refine ac kO (bq Q L O N V U) (ai K J) ?_;refine⟨k+1,?_,kN (ae Y) [],?_⟩
    ·omega
    ·omega
  ·have:k=Z.length:=xA;subst this
   try dsimp only
   rw[yE];refine ac kO aa aa ?_;exact bZ (o:=901) rfl rfl xB (uE xB)
def j8 (x y:Int×Int):Bool:=decide (x.1<y.1)&&decide (y.2<x.2)
def fF :List (Int×Int)->List (Int×Int)->Nat
 |[],_=>0
 |x::E,F=>F.countP (j8 x)+fF E F
theorem La (E F:List (Int×Int))(x:Int×Int):fF (E++[x]) F=fF E F+F.countP (j8 x):=by
 induction E with
 |nil=>simp[fF]
 |cons y E Z=>simp only[gK,fF,Z];omega
theorem Dy (E F:List (Int×Int)):fF E F<=E.length*F.length:=by
 induction E with
 |nil=>simp[fF]
 |cons y E Z=>
  have:=List.countP_le_length (p:=j8 y) (l:=F);simp only[fF,uV,qN];omega
def f0 (a:Lv)(i:Int):Int:=if aH a=false\/i<0\/(a.2.1.length:Int)-1<=i then 0 else fF (bf (aF a.2.1 i.toNat) (aF a.2.1 (i.toNat+1)) a.2.2.1) (bf (aF a.2.1 i.toNat) (aF a.2.1 (i.toNat+1)) a.2.2.1)
theorem PT (a:Lv)(i:Int)(hw:wide a):ah Tryz.prog 194 [lvD a, .int i] (.int (f0 a i)):=by
 have Y:=km a hw;rw[<-kt]at Y;rw[f0];rcases h:aH a with _|_<;>rw[h]at Y
 ·rw[if_pos (.inl rfl)];refine kE Tryz.func194 ?_;intro Z B X F;refine ac kO aa (ae Y) ?_;exact ap rfl
 ·obtain⟨s1,s2,s3⟩:=kh h;by_cases c:i<0\/(a.2.1.length:Int)-1<=i
  ·rw[if_pos (.inr c)];obtain⟨n,ls,C,A⟩:=a;dsimp only at c;refine kE Tryz.func194 ?_;intro Z B X F;have U:=cO 0 1 Z rfl rfl;rw[uC]at U;dsimp only at U;refine kw kO aa (ae Y) ?_
   repeat' first|exact True.intro|refine Bn.mk ?_ ?_|intro hc
   all_goals exact ap rfl
  ·rw[if_neg (by rintro(h|h);cases h;exact c h)];obtain⟨i,rfl⟩:∃n:Nat,i=n:=⟨i.toNat,xA⟩;rw[uK];obtain⟨y,H⟩:=ak (l:=a.2.1) (k:=i) xA;obtain⟨z,G⟩:=ak (l:=a.2.1) (k:=i+1) xA;have h2:=u9 a i y z H G xA;have hEl:=rZ y z a.2.2.1;have s:aF a.2.1 i=y:=by rw[aF,H];rfl
   have e2:aF a.2.1 (i+1)=z:=by rw[aF,G];rfl
   rw[s,e2];generalize bf y z a.2.2.1=E at*;have V:∀k,k<=E.length->fF (E.take k) E<=800*800:=λ k hk=>by
    refine gY (Dy _ _) (jW ?_ xA);rw[yA];omega
   obtain⟨n,ls,C,A⟩:=a;dsimp only at*;refine kE Tryz.func194 ?_;intro Z B X F;have U:=cO 0 1 Z rfl rfl;rw[uC]at U;dsimp only at U;refine ac kO aa (ai Y h2) ?_;refine aq (λ(u:Nat)=>u<=E.length) (λ u=>[(5, .d (lr E)),(6, .int (fF (E.take u) E)),(7, .int u)]) (λ u=>[]) (λ u=>E.length-u) 0 ?_ ?_ ?_
   ·exact uF _
   ·exact kN (ai @yQ.{0} @fF.eq_1) []
   ·intro u hu;rcases uD u E.length with R|hge
    ·obtain⟨p,J⟩:=ak R;have L:fF (E.take (u+1)) E=fF (E.take u) E+E.countP (j8 p):=by rw[aM J,La]
     have b:=V u hu;have b2:=V (u+1) xA;obtain⟨T,M⟩:∃T,fF (E.take u) E=T:=⟨_,rfl⟩;rw[M]at b L;refine ac kO aa aa ?_;refine aq (λ(v:Nat)=>v<=E.length) (λ v=>[(5, .d (lr E)),(6, .int ((T+(E.take v).countP (j8 p):Nat):Int)),(7, .int u),(8, .int v)]) (λ v=>[]) (λ v=>E.length-v) 0 ?_ ?_ ?_
     ·exact uF _
     ·exact kN (aE M @yQ.{0} @List.countP_nil.{0} @gX) []
     ·intro v hv;rcases uD v E.length with Q|hgv
      ·obtain⟨q,I⟩:=ak Q;have K:(E.take (v+1)).countP (j8 p)=(E.take v).countP (j8 p)+if j8 p q then 1 else 0:=by
        rw[aM I,List.countP_append];simp[List.countP_cons]
       have S:=List.countP_le_length (p:=j8 p) (l:=E.take v);rw[yA]at S;generalize(E.take v).countP (j8 p)=d at*;by_cases O:p.1<q.1<;>by_cases N:q.2<p.2
       all_goals simp only[j8,O,N,Co,Au,Bool.and_true,zY,qK,if_true,jH,gX]at K
       all_goals
        refine ac kO (aE J I O N) aa ?_;refine⟨v+1,?_,kN (aE K @qQ @gN @kH) [],?_⟩
        ·omega
        ·omega
      ·have:v=E.length:=xA;subst this
       try dsimp only
       rw[yE];refine ac kO aa aa ?_;refine⟨u+1,?_,kN (ae L) [],?_⟩
       ·omega
       ·omega
    ·have:u=E.length:=xA;subst this
     try dsimp only
     rw[yE];refine ac kO aa aa ?_;exact ap rfl
def yc (a:Lv):Int:=a8 (λ i=>f0 a i) a.2.1.length
theorem PR (a:Lv)(i:Int):0<=f0 a i/\f0 a i<=360000000000:=by
 rw[f0];split
 ·omega
 ·rename_i h;have Z:aH a=true:=by
   rcases Z:aH a with _|_
   ·exact absurd (.inl Z) h
   ·rfl
  obtain⟨s,U,T⟩:=kh Z;have Y:=rZ (aF a.2.1 i.toNat) (aF a.2.1 (i.toNat+1)) a.2.2.1;generalize bf (aF a.2.1 i.toNat) (aF a.2.1 (i.toNat+1)) a.2.2.1=E at*;have X:=Dy E E;have V:E.length*E.length<=800*800:=jW xA xA;omega
theorem GR (a:Lv)(H:wide a)(E:a.2.1.length<=1000):ah Tryz.prog 139 [lvD a] (.int (yc a)):=by
 have L:=λ i=>PT a i H
 have U:=PR a;have T:∀k,k<=a.2.1.length->0<=a8 (λ i=>f0 a i) k/\a8 (λ i=>f0 a i) k<=1000*360000000000:=λ k F=>by
  have:=qh (f:=λ i=>f0 a i) (c:=360000000000) k λ i _=>U i
  have O:k*360000000000<=1000*360000000000:=yR _ xA;omega
 rw[yc];generalize N:(λ i:Nat=>f0 a i)=Z at T|-;have h:∀i:Nat,ah Tryz.prog 194 [lvD a, .int i] (.int (Z i)):=λ i=>by rw[<-N];exact L i
 obtain⟨n,Y,S,R⟩:=a;dsimp only at*;refine kE Tryz.func139 ?_;intro M B X C;refine ac kO aa aa ?_;refine aq (λ(i:Nat)=>i<=Y.length) (λ i=>[(1, .ptr 1 0 0 0),(3, .int (a8 Z i)),(4, .int i)]) (λ i=>[(1, .cells [.int n, .d (am Y), .d (aw S), .d (am R)])]) (λ i=>Y.length-i) 0 ?_ ?_ ?_
 ·exact uF _
 ·exact kN (ae @a8.eq_1) []
 ·intro i J;rcases uD i Y.length with I|K
  ·have G:=T i J;have O:=T (i+1) xA;have Q:a8 Z (i+1)=a8 Z i+Z i:=rfl;have V:=h i;refine ac kO aa (ae V) ?_;refine⟨i+1,?_,kN (ae Q) [],?_⟩
   ·omega
   ·omega
  ·have:i=Y.length:=xA;subst this;refine ac kO aa aa ?_;exact ap rfl
def tH (c:List Int):Bool:=decide (60<c.length)
def lM (a:Lv):Bool:=decide (a.2.1.length<=60/\a.2.2.1.length<=90/\a.2.2.2.length<=90)&& !a.2.1.any tH&& !a.2.2.2.any tH
theorem wj {a:Lv}(h:lM a=true):a.2.1.length<=60/\a.2.2.1.length<=90/\a.2.2.2.length<=90/\(∀y,y∈a.2.1->y.length<=60)/\∀y,y∈a.2.2.2->y.length<=60:=by
 simp only[lM,uN,uG,yL,qH]at h;obtain⟨⟨⟨Y,X,V⟩,U⟩,T⟩:=h;refine⟨Y,X,V,λ y Z=>?_,λ y Z=>?_⟩
 ·have:=U y Z;simp only[tH,uG]at this;omega
 ·have:=T y Z;simp only[tH,uG]at this;omega
end Go.Proofs.YtjjbhjnpeenbkaaGreatDoor
namespace Go.Proofs.YtjjbhjnpeenbkaaGreatDoor
open Go Go.PS Go.Proofs
abbrev Pr :=Int×Int
def w1 (f:Pr->Int):List Pr->Int
 |[]=>0
 |y::F=>f y+w1 f F
def W (f:Pr->Pr->Int)(F:List Pr):List Pr->Int
 |[]=>0
 |x::E=>w1 (f x) F+W f F E
theorem sF {f g:Pr->Int}:∀{F:List Pr},(∀y,y∈F->f y=g y)->w1 f F=w1 g F
 |[],_=>rfl
 |y::F,h=>by rw[w1,w1,h y xB,sF λ z hz=>h z (uP _ hz)]
theorem mc {f g:Pr->Pr->Int}{F:List Pr}:∀{E:List Pr},(∀x,x∈E->∀y,y∈F->f x y=g x y)->W f F E=W g F E
 |[],_=>rfl
 |x::E,h=>by rw[W,W,sF (h x xB),mc λ z hz=>h z (uP _ hz)]
theorem IS (f g:Pr->Int):∀F:List Pr,w1 (λ y=>f y+g y) F=w1 f F+w1 g F
 |[]=>rfl
 |y::F=>by rw[w1,w1,w1,IS f g F];omega
theorem AR (f g:Pr->Pr->Int)(F:List Pr):∀E:List Pr,W (λ x y=>f x y+g x y) F E=W f F E+W g F E
 |[]=>rfl
 |x::E=>by rw[W,W,W,IS,AR f g F E];omega
theorem zz :∀F:List Pr,w1 (λ _=>0) F=0
 |[]=>rfl
 |y::F=>by rw[w1,zz F];rfl
theorem sT (F:List Pr):∀E:List Pr,W (λ _ _=>0) F E=0
 |[]=>rfl
 |x::E=>by rw[W,zz,sT F E];rfl
theorem AW (f:Nat->Pr->Pr->Int)(F E:List Pr):∀n,a8 (λ k=>W (f k) F E) n=W (λ x y=>a8 (λ k=>f k x y) n) F E
 |0=>by simp only[a8];rw[sT]
 |n+1=>by simp only[a8];rw[AW f F E n,AR]
theorem AV (f:Pr->Pr->Int):∀E:List Pr,W f [] E=0
 |[]=>rfl
 |x::E=>by rw[W,AV f E];rfl
theorem AU (f:Pr->Pr->Int)(y:Pr)(F:List Pr):∀E:List Pr,W f (y::F) E=w1 (λ x=>f x y) E+W f F E
 |[]=>rfl
 |x::E=>by rw[W,W,w1,w1,AU f y F E];omega
theorem AX (f:Pr->Pr->Int):∀F E:List Pr,W f F E=W (λ x y=>f y x) E F
 |[],E=>by rw[AV,W]
 |y::F,E=>by rw[AU,W,AX f F E]
theorem IV (g:Pr->Pr)(f:Pr->Int):∀F:List Pr,w1 f (F.map g)=w1 (λ y=>f (g y)) F
 |[]=>rfl
 |y::F=>by rw[uS,w1,w1,IV g f F]
theorem vh (g:Pr->Pr)(f:Pr->Pr->Int)(F:List Pr):∀E:List Pr,W f (F.map g) (E.map g)=W (λ x y=>f (g x) (g y)) F E
 |[]=>rfl
 |x::E=>by rw[uS,W,W,IV,vh g f F E]
def ind (p:Prop)[Decidable p]:Int:=if p then 1 else 0
theorem IU (p:Pr->Bool):∀F:List Pr,((F.countP p:Nat):Int)=w1 (λ y=>ind (p y=true)) F
 |[]=>rfl
 |y::F=>by
  have:=IU p F;rw[w1,<-this,List.countP_cons,ind];split<;>omega
theorem Dz (F:List Pr):∀E:List Pr,((fF E F:Nat):Int)=W (λ x y=>ind (x.1<y.1/\y.2<x.2)) F E
 |[]=>rfl
 |x::E=>by
  rw[fF,W,<-Dz F E,qQ,IU]
  congr 1
  refine sF λ y _=>?_
  simp[ind,j8]
theorem IG (x:Int)(p:Pr->Bool)(g:Pr->Int):∀F:List Pr,((ed ((F.filter p).map g) x:Nat):Int)=w1 (λ y=>ind (p y=true/\g y<x)) F
 |[]=>rfl
 |y::F=>by
  have Y:=IG x p g F;rw[w1,<-Y];by_cases h:p y=true
  ·rw[List.filter_cons_of_pos h,uS,ed,ed,kK];by_cases Z:g y<x
   ·simp[ind,h,Z];omega
   ·simp[ind,h,Z]
  ·rw[List.filter_cons_of_neg h];simp[ind,h]
theorem vx (p q:Pr->Bool)(g:Pr->Int)(F:List Pr):∀E:List Pr,((eG ((E.filter p).map g) ((F.filter q).map g):Nat):Int)=W (λ x y=>ind (p x=true/\q y=true/\g y<g x)) F E
 |[]=>rfl
 |x::E=>by
  have Z:=vx p q g F E;rw[W,<-Z];by_cases h:p x=true
  ·rw[List.filter_cons_of_pos h,uS,eG,qQ,IG]
   congr 1
   refine sF λ y _=>?_
   simp[ind,h]
  ·rw[List.filter_cons_of_neg h];have:w1 (λ y=>ind (p x=true/\q y=true/\g y<g x)) F=0:=by
    rw[<-zz F];refine sF λ y _=>?_
    simp[ind,h]
   rw[this];omega
theorem zj (u:Int)(g:Nat->Int):∀n:Nat,(∀k:Nat,(k:Int)≠u->g k=0)->a8 g n=if 0<=u/\u<n then g u.toNat else 0
 |0,_=>by rw[a8,if_neg xA]
 |n+1,h=>by
  rw[a8,zj u g n h];by_cases c:(n:Int)=u
  ·subst c;rw[if_neg xA,if_pos xA,uK];omega
  ·rw[h n c];by_cases Z:0<=u/\u<n
   ·rw[if_pos Z,if_pos xA];omega
   ·rw[if_neg Z,if_neg xA];rfl
theorem nH {y:List Int}(hn:y.Nodup){v:Int}{p:Nat}(h:y[p]? =some v):placeF y v=p:=by
 have U:=rz hn h;rw[placeF];cases Y:y.findIdx? (λ x=>decide (x=v))with
 |none=>
  have:=Bt.1 Y v (uA h);simp at this
 |some k=>
  obtain⟨X,Z,_⟩:=jY.1 Y;have V:y[k]=v:=by simpa using Z
  have:=rz hn (k:=k) (v:=v) (by rw[uT X,V]);rw[eh];omega
theorem oP {y:List Int}{v:Int}(h:v∉y):placeF y v=-1:=by
 rw[placeF,ka]
 ·rfl
 ·intro j z hz;simp only[qJ];rintro rfl;exact h (uA hz)
theorem dJ.placeF {ls:List (List Int)}(hn:ls.flatten.Nodup){v:Int}{r p i:Nat}{y:List Int}(h:dJ ls v r p)(hy:ls[i]? =some y):Go.Proofs.YtjjbhjnpeenbkaaGreatDoor.placeF y v=if r=i then(p:Int)else -1:=by
 by_cases c:r=i
 ·subst c;rw[if_pos rfl];obtain⟨z,Z,Y⟩:=h;rw[hy]at Z;cases Z;exact nH ((jO.1 hn).1 y (uA hy)) Y
 ·rw[if_neg c];refine oP λ V=>?_
  obtain⟨q,X⟩:=qA V;exact c (h.layer hn ⟨y,hy,X⟩)
theorem xL {ls:List (List Int)}(hn:ls.flatten.Nodup){x:Arc}{r p q i:Nat}{y z:List Int}(h:Joins ls x r p q)(hy:ls[i]? =some y)(hz:ls[i+1]? =some z):jk y z x=if r=i then[((p:Int),(q:Int))]else[]:=by
 rw[jk,h.up.placeF hn hy,h.dn.placeF hn hz];by_cases c:r=i
 ·simp[c]
 ·simp[c]
theorem Joins.lt {ls:List (List Int)}{x:Arc}{r p q:Nat}(h:Joins ls x r p q){y z:List Int}(hy:ls[r]? =some y)(hz:ls[r+1]? =some z):p<y.length/\q<z.length:=by
 obtain⟨⟨u,Z,X⟩,⟨v,Y,V⟩⟩:=h;rw[hy]at Z;cases Z;rw[hz]at Y;cases Y;exact⟨(uB.1 X).1,(uB.1 V).1⟩
section valid
variable {ls:List (List Int)}{ar:List Arc}(hn:ls.flatten.Nodup)(hj:∀x,x∈ar->∃r p q,Joins ls x r p q){i:Nat}{y z:List Int}(hy:ls[i]? =some y)(hz:ls[i+1]? =some z)
include hn hj hy hz
theorem O2 :∀e,e∈bf y z ar->0<=e.1/\e.1<y.length/\0<=e.2/\e.2<z.length:=by
 intro e Z;obtain⟨x,Y,Z⟩:=zJ.1 Z;obtain⟨r,p,q,h⟩:=hj x Y;rw[xL hn h hy hz]at Z;split at Z
 ·rename_i c;subst c;have:=h.lt hy hz;rw[uX]at Z;subst Z;dsimp only;omega
 ·cases Z
theorem DU (Z:Nat):iq ls ar i ((i:Int)+1) ar.length Z=((bf y z ar).filter λ e:Pr=>decide (e.1=(Z:Int))).map (·.2):=by
 rw[iq,yE]
 induction ar with
 |nil=>rfl
 |cons x ar V=>
  obtain⟨r,p,q,h⟩:=hj x xB;rw[qM,V (λ w X=>hj w (uP _ X))];have e:bf y z (x::ar)=jk y z x++bf y z ar:=by simp[bf]
  rw[e,gO,uO]
  congr 1
  rw[xL hn h hy hz,j9,h.up.ly hn,h.dn.ly hn,h.up.pl hn,h.dn.pl hn];by_cases c:r=i
  ·subst c;rw[if_pos ⟨rfl,xA⟩,if_pos rfl];by_cases Y:(p:Int)=Z
   ·simp[Y]
   ·simp[Y]
  ·rw[if_neg xA,if_neg xA,if_neg c];rfl
theorem DV (Z:Nat):iq ls ar ((i+1:Nat):Int) i ar.length Z=((bf y z ar).filter λ e:Pr=>decide (e.2=(Z:Int))).map (·.1):=by
 rw[iq,yE]
 induction ar with
 |nil=>rfl
 |cons x ar V=>
  obtain⟨r,p,q,h⟩:=hj x xB;rw[qM,V (λ w X=>hj w (uP _ X))];have e:bf y z (x::ar)=jk y z x++bf y z ar:=by simp[bf]
  rw[e,gO,uO]
  congr 1
  rw[xL hn h hy hz,j9,h.up.ly hn,h.dn.ly hn,h.up.pl hn,h.dn.pl hn];by_cases c:r=i
  ·subst c;rw[if_neg xA,if_pos ⟨xA,rfl⟩,if_pos rfl];by_cases Y:(q:Int)=Z
   ·simp[Y]
   ·simp[Y]
  ·rw[if_neg xA,if_neg xA,if_neg c];rfl
end valid
end Go.Proofs.YtjjbhjnpeenbkaaGreatDoor
namespace Go.Proofs.YtjjbhjnpeenbkaaGreatDoor
open Go Go.PS Go.Proofs
theorem li {p:Prop}[Decidable p](h:¬p):ind p=0:=by simp[ind,h]
theorem wH {p:Prop}[Decidable p](h:p):ind p=1:=by simp[ind,h]
theorem nf {p q:Prop}[Decidable p][Decidable q](h:p↔q):ind p=ind q:=by
 by_cases Z:p
 ·rw[wH Z,wH (h.1 Z)]
 ·rw[li Z,li λ Y=>Z (h.2 Y)]
theorem Ts (own other:Pr->Int)(P:List Pr)(n:Nat)(Z:∀e,e∈P->0<=own e/\own e<n):
  a8 (λ A=>a8 (λ B=>W (λ x y=>ind (own x=(B:Int)/\own y=(A:Int)/\other y<other x)) P P) A) n=W (λ x y=>ind (own x<own y/\other y<other x)) P P:=by
 simp only[AW];refine mc λ x S y R=>?_
 have V:=Z x S;have U:=Z y R;have T:∀A:Nat,a8 (λ B:Nat=>ind (own x=(B:Int)/\own y=(A:Int)/\other y<other x)) A=ind (own x<A/\own y=(A:Int)/\other y<other x):=λ A=>by
  rw[zj (own x) _ A λ k X=>li λ h=>X h.1.symm];by_cases c:own x<A
  ·rw[if_pos ⟨V.1,c⟩];refine nf ?_;constructor
   ·rintro⟨_,h⟩;exact⟨c,h⟩
   ·rintro⟨_,h⟩;exact⟨xA,h⟩
  ·rw[if_neg (λ h=>c h.2),li λ h=>c h.1]
 simp only[T];rw[zj (own y) _ n λ k X=>li λ h=>X h.2.1.symm,if_pos U];refine nf ?_;constructor
 ·rintro⟨h,_,Y⟩;exact⟨xA,Y⟩
 ·rintro⟨h,Y⟩;exact⟨xA,xA,Y⟩
theorem rI (f:Nat->List Int){n k:Nat}(h:k<n):aF ((List.range n).map f) k=f k:=by simp[aF,h]
theorem rb {E:List (List Int)}{u v:Nat}(h:u<E.length)(Z:v<E.length):au (eo E) u v=io E u v:=by
 rw[au,eo,rI _ h,at0,uK];simp[Z]
structure Near (a:Lv)(i:Nat)(y z:List Int):Prop where
 ok:aH a=true
 hy:a.2.1[i]? =some y
 hz:a.2.1[i+1]? =some z
namespace Near
variable {a:Lv}{i:Nat}{y z:List Int}
theorem joins (h:Near a i y z):∀x,x∈a.2.2.1->∃r p q,Joins a.2.1 x r p q:=λ x Y=>by
 obtain⟨k,Z⟩:=qA Y;exact zw h.ok Z
theorem lt (h:Near a i y z):i+1<a.2.1.length:=(uB.1 h.hz).1
theorem ins (h:Near a i y z):∀e,e∈bf y z a.2.2.1->0<=e.1/\e.1<y.length/\0<=e.2/\e.2<z.length:=O2 (lz h.ok) h.joins h.hy h.hz
theorem matD (h:Near a i y z):bb a i ((i:Int)+1)=eo (cj a.2.1 a.2.2.1 i ((i:Int)+1) y.length):=by
 have Y:=h.lt;have Z:dC a i ((i:Int)+1)=true:=by
  simp[dC,h.ok];omega
 rw[bb,if_pos Z,ei,uK,h.hy];rfl
theorem matU (h:Near a i y z):bb a ((i:Int)+1) i=eo (cj a.2.1 a.2.2.1 ((i+1:Nat):Int) i z.length):=by
 have Y:=h.lt;have Z:dC a ((i:Int)+1) i=true:=by
  simp[dC,h.ok];omega
 rw[bb,if_pos Z,ei,show((i:Int)+1).toNat=i+1 by omega,h.hz];rfl
theorem lenD (h:Near a i y z):(bb a i ((i:Int)+1)).length=y.length:=by rw[h.matD];simp[eo,cj]
theorem cellD (h:Near a i y z){u v:Nat}(Z:u<y.length)(Y:v<y.length):au (bb a i ((i:Int)+1)) u v=if u=v then 0 else W (λ x w=>ind (x.1=(u:Int)/\w.1=(v:Int)/\w.2<x.2)) (bf y z a.2.2.1) (bf y z a.2.2.1):=by
 rw[h.matD,rb (by simpa[cj]using Z) (by simpa[cj]using Y),io];split
 ·rfl
 ·rw[cj,rI _ Z,rI _ Y,DU (lz h.ok) h.joins h.hy h.hz,DU (lz h.ok) h.joins h.hy h.hz,vx];simp only[uG]
theorem cellU (h:Near a i y z){u v:Nat}(Z:u<z.length)(Y:v<z.length):au (bb a ((i:Int)+1) i) u v=if u=v then 0 else W (λ x w=>ind (x.2=(u:Int)/\w.2=(v:Int)/\w.1<x.1)) (bf y z a.2.2.1) (bf y z a.2.2.1):=by
 rw[h.matU,rb (by simpa[cj]using Z) (by simpa[cj]using Y),io];split
 ·rfl
 ·rw[cj,rI _ Z,rI _ Y,DV (lz h.ok) h.joins h.hy h.hz,DV (lz h.ok) h.joins h.hy h.hz,vx];simp only[uG]
abbrev cr (_:Near a i y z):Int:=W (λ x w=>ind (x.1<w.1/\w.2<x.2)) (bf y z a.2.2.1) (bf y z a.2.2.1)
theorem between (h:Near a i y z):du a i=h.cr:=by
 have V:=h.lt;rw[du,if_neg (by simp only[pU,uG];omega),zt,h.lenD];rw[ux (g:=λ A=>a8 (λ B=>W (λ x w=>ind (x.1=(B:Int)/\w.1=(A:Int)/\w.2<x.2)) (bf y z a.2.2.1) (bf y z a.2.2.1)) A) _ λ A Y=>ux _ λ B X=>by rw[h.cellD xA Y,if_neg xA]];exact Ts (λ e=>e.1) (λ e=>e.2) _ _ λ e Z=>⟨(h.ins e Z).1,(h.ins e Z).2.1⟩
theorem rbetween (h:Near a i y z):f0 a i=h.cr:=by
 have Z:=h.lt;rw[f0,if_neg (by rw[h.ok];simp;omega),uK,aF,aF,h.hy,h.hz,yN,yN,Dz]
end Near
namespace Near
variable {a:Lv}{i:Nat}{y z:List Int}
end Near
theorem pS {a:Lv}(h:aH a=true){i:Nat}(Z:i+1<a.2.1.length):∃y z,Near a i y z:=by
 obtain⟨y,Y⟩:=ak (l:=a.2.1) (k:=i) xA;obtain⟨z,X⟩:=ak Z;exact⟨y,z,h,Y,X⟩
theorem Ki (a:Lv)(i:Int):du a i=f0 a i:=by
 rcases h:aH a with _|_
 ·have V:bb a i (i+1)=[]:=by rw[bb,if_neg (by simp[dC,h])]
  have Y:f0 a i=0:=by rw[f0,if_pos (.inl h)]
  rw[Y,du,V];split<;>rfl
 ·by_cases c:0<=i/\i+1<a.2.1.length
  ·obtain⟨n,rfl⟩:∃n:Nat,i=n:=⟨i.toNat,xA⟩;obtain⟨y,z,Z⟩:=pS h (i:=n) xA;rw[Z.between,Z.rbetween]
  ·rw[f0,if_pos (by rw[h];simp;omega)];rw[du];split
   ·rfl
   ·rename_i X;simp only[pU,uG]at X;omega
theorem Iz (a:Lv):bG a=yc a:=ux _ λ i _=>Ki a i
end Go.Proofs.YtjjbhjnpeenbkaaGreatDoor
namespace Go.Proofs.YtjjbhjnpeenbkaaGreatDoor
open Go Go.PS Go.Proofs
set_option maxRecDepth 100000
attribute [local irreducible] ao wpG ah ax
end Go.Proofs.YtjjbhjnpeenbkaaGreatDoor
namespace Go.Proofs.YtjjbhjnpeenbkaaGreatDoor
open Go Go.PS Go.Proofs
theorem y4 {l m:List Int}(h:l.Perm m):bh l=bh m:=
 By (le:=(·<=·)) (λ a b _ _ Z Y=>Int.le_antisymm Z Y) (y5 l) (y5 m) ((n0 l).trans (h.trans (n0 m).symm))
namespace Near
variable {a:Lv}{i:Nat}{y z:List Int}
end Near
def qi (y:List Int)(k:Nat):List Int:=(y.set k (at0 y ((k+1:Nat):Int))).set (k+1) (at0 y k)
theorem Th {y:List Int}{k:Nat}(X:k+1<y.length)(j:Nat):(qi y k)[j]? =if j=k then y[k+1]? else if j=k+1 then y[k]? else y[j]? :=by
 have V:=aK (r:=y) (i:=k) xA;have U:=aK (r:=y) (i:=k+1) X;rw[qi,qF,qF,yJ];by_cases Z:j=k
 ·subst Z;rw[if_neg xA,if_pos rfl,if_pos xA,if_pos rfl,U]
 ·by_cases Y:j=k+1
  ·subst Y;rw[if_pos rfl,if_pos X,if_neg Z,if_pos rfl,V]
  ·rw[if_neg (λ h=>Y h.symm),if_neg (λ h=>Z h.symm),if_neg Z,if_neg Y]
theorem Ti {y:List Int}{k:Nat}(h:k+1<y.length):(qi y k).Perm y:=by
 have V:=aK (r:=y) (i:=k) xA;have U:=aK (r:=y) (i:=k+1) h;have Q:y=y.take k++at0 y k::at0 y ((k+1:Nat):Int)::y.drop (k+2):=by
  have Y:=qV (l:=y) (i:=k) xA;have X:=qV (l:=y) (i:=k+1) h;obtain⟨_,S⟩:=uB.1 V;obtain⟨_,R⟩:=uB.1 U;rw[S]at Y;rw[R]at X
  conv=>lhs;rw[<-gR k y,Y,X]
 have O:qi y k=y.take k++at0 y ((k+1:Nat):Int)::at0 y k::y.drop (k+2):=by
  refine yX λ j=>?_
  rw[Th h];have T:(y.take k).length=k:=by rw[yA];omega
  rcases zP j k with c|c|c
  ·rw[if_neg xA,if_neg xA,qZ xA,jN c]
  ·subst c;rw[if_pos rfl,qL xA,T,jK];exact U
  ·rw[if_neg xA,qL xA,T];by_cases Z:j=k+1
   ·subst Z;rw[if_pos rfl,show k+1-k=0+1 by omega,jQ];exact V
   ·rw[if_neg Z,show j-k=(j-(k+2))+1+1 by omega,jQ,jQ,gC]
    congr 1;omega
 rw[O]
 conv=>rhs;rw[Q]
 exact List.Perm.append_left _ (List.Perm.swap _ _ _)
def u2 (a:Lv)(i k:Nat)(y:List Int):Lv:=(a.1,a.2.1.set i (qi y k),a.2.2.1,a.2.2.2)
namespace Near
variable {a:Lv}{i k:Nat}{y z:List Int}
theorem turn (h:Near a i y z)(Z:k+1<y.length):Near (u2 a i k y) i (qi y k) z:=by
 have Y:=h.lt;refine⟨?_,?_,?_⟩
 ·rw[u2,IN (G6 h.hy (y4 (Ti Z)))];exact h.ok
 ·rw[u2,qF,if_pos rfl,if_pos xA]
 ·rw[u2,qF,if_neg xA];exact h.hz
end Near
end Go.Proofs.YtjjbhjnpeenbkaaGreatDoor
namespace Go.Proofs.YtjjbhjnpeenbkaaGreatDoor
open Go Go.PS Go.Proofs
set_option maxRecDepth 100000
attribute [local irreducible] ao wpG ah ax
theorem IT (f:Pr->Int)(G:List Pr):∀F:List Pr,w1 f (F++G)=w1 f F+w1 f G
 |[]=>by rw[gB,w1];omega
 |y::F=>by rw[gK,w1,w1,IT f G F];omega
theorem AS (f:Pr->Pr->Int)(F G:List Pr):∀E:List Pr,W f F (E++G)=W f F E+W f F G
 |[]=>by rw[gB,W];omega
 |y::E=>by rw[gK,W,W,AS f F G E];omega
theorem zy {f:Pr->Int}(h:∀y,0<=f y/\f y<=1):∀F:List Pr,0<=w1 f F/\w1 f F<=F.length
 |[]=>by simp[w1]
 |y::F=>by
  have:=zy h F;have:=h y;simp only[w1,uV];omega
theorem AT {f:Pr->Pr->Int}(h:∀x y,0<=f x y/\f x y<=1)(F:List Pr):∀E:List Pr,0<=W f F E/\W f F E<=((E.length*F.length:Nat):Int)
 |[]=>by simp[W]
 |x::E=>by
  have Z:=AT h F E;have Y:=zy (h x) F;simp only[W,uV,qN,Dt];omega
def tly (own oth:Pr->Int)(A B:Nat)(x y:Pr):Int:=ind (own x=(A:Int)/\own y=(B:Int)/\own x≠own y/\oth y<oth x)
def fj (own oth:Pr->Int)(E:List Pr)(u A B:Nat):Int:=W (tly own oth A B) E (E.take u)
def cM (own oth:Pr->Int)(E:List Pr)(u:Nat)(p:Pr)(v A B:Nat):Int:=fj own oth E u A B+w1 (tly own oth A B p) (E.take v)
def da (c:Nat->Nat->Int)(n A:Nat):List Int:=(List.range n).map λ B=>c A B
def ma (c:Nat->Nat->Int)(n:Nat):List (List Int):=(List.range n).map λ A=>da c n A
theorem Mx (p:Prop)[Decidable p]:0<=ind p/\ind p<=1:=by unfold ind;split<;>omega
theorem Ir (own oth:Pr->Int)(A B:Nat)(x y:Pr):0<=tly own oth A B x y/\tly own oth A B x y<=1:=Mx _
section acc
variable {own oth:Pr->Int}{E:List Pr}{u v:Nat}{p q:Pr}
theorem BH :fj own oth E 0=λ _ _=>0:=by funext A B;rw[fj,yQ,W]
theorem BE :cM own oth E u p 0=fj own oth E u:=by funext A B;rw[cM,yQ,w1];omega
theorem BG (h:E[u]? =some p):fj own oth E (u+1)=cM own oth E u p E.length:=by
 funext A B
 rw[fj,cM,fj,aM h,AS,yE,W,W];omega
theorem BC (h:E[v]? =some q)(A B:Nat):cM own oth E u p (v+1) A B=cM own oth E u p v A B+tly own oth A B p q:=by
 rw[cM,cM,aM h,IT,w1,w1];omega
theorem sU (Y:E[v]? =some q)(h:¬(own p≠own q/\oth q<oth p)):cM own oth E u p (v+1)=cM own oth E u p v:=by
 funext A B
 rw[BC Y,tly,li λ Z=>h Z.2.2];omega
theorem BA (S:E[v]? =some q)(X:own p≠own q)(V:oth q<oth p){Z Y:Nat}(U:own p=Z)(T:own q=Y)(A B:Nat):cM own oth E u p (v+1) A B=cM own oth E u p v A B+if A=Z/\B=Y then 1 else 0:=by
 rw[BC S,tly];by_cases c:A=Z/\B=Y
 ·obtain⟨rfl,rfl⟩:=c;rw[wH ⟨U,T,X,V⟩,if_pos ⟨rfl,rfl⟩]
 ·rw[li λ h=>c xA,if_neg c]
theorem AZ (Z:E.length<=1000)(A B:Nat):0<=cM own oth E u p v A B/\cM own oth E u p v A B<=1001000:=by
 have Y:=AT (Ir own oth A B) E (E.take u);have h:=zy (Ir own oth A B p) (E.take v);have X:(E.take u).length*E.length<=1000*1000:=jW (by rw[yA];omega) Z;rw[yA]at h;rw[cM,fj];omega
end acc
theorem qa (c:Nat->Nat->Int)(n A:Nat):(da c n A).length=n:=by simp[da]
theorem sj (c:Nat->Nat->Int){n b:Nat}(A:Nat)(h:b<n):(da c n A)[b]? =some (c A b):=by simp[da,h]
theorem Hh (n A:Nat):da (λ _ _=>0) n A=List.replicate n 0:=by
 refine yX λ b=>?_
 by_cases h:b<n
 ·rw[sj _ _ h,gA,if_pos h]
 ·rw[uL (by rw[qa];omega),uL (by simp;omega)]
theorem Hf {c Z:Nat->Nat->Int}(n A:Nat)(h:∀B,c A B=Z A B):da c n A=da Z n A:=yK λ B _=>h B
theorem Hg {c Z:Nat->Nat->Int}{n A b:Nat}{x:Int}(X:b<n)(h:∀B,Z A B=if B=b then x else c A B):(da c n A).set b x=da Z n A:=by
 refine yX λ B=>?_
 by_cases Y:B<n
 ·rw[sj _ _ Y,h,qF];by_cases e:b=B
  ·subst e;rw[if_pos rfl,if_pos rfl,qa,if_pos X]
  ·rw[if_neg e,if_neg (λ h=>e h.symm),sj _ _ Y]
 ·rw[uL (by rw[yJ,qa];omega),uL (by rw[qa];omega)]
theorem P8 (a:Lv)(i:Nat)(y z:List Int)(Y:Near a i y z)(hw:wide a):
  ah Tryz.prog 254 [lvD a, .int i, .int ((i:Int)+1)] (am (ma (fj (λ e=>e.1) (λ e=>e.2) (bf y z a.2.2.1) (bf y z a.2.2.1).length) y.length)):=by
 have h1:=km a hw;rw[<-kt,Y.ok]at h1;obtain⟨s1,s2,s3⟩:=kh Y.ok;obtain⟨t1,t2⟩:=cF Y.ok;have K:=Y.hy;have J:=Y.hz;have hlt:=Y.lt;have h2:=u9 a i y z K J xA;have hEl:=rZ y z a.2.2.1;have s:=Y.ins;have hyl:=cV (uA Y.hy);have hzl:=cV (uA Y.hz);clear Y hw;generalize bf y z a.2.2.1=E at*;have hE:E.length<=1000:=xA;obtain⟨N,hN⟩:∃N,N=y.length:=⟨_,rfl⟩;rw[<-hN];have hN5:N<=512:=xA;have Z:∀e,e∈E->0<=e.1/\e.1<N:=λ e he=>by have:=s e he;omega
 obtain⟨n,ls,ar,cs⟩:=a;dsimp only at*;have M:((i:Int)+1).toNat=i+1:=xA;have m1:((i:Int)+1<i)=False:=by simp only[Ah,Dn];omega
 have m2:((i:Int)<(i:Int)+1)=True:=by simp only[Ah,iff_true];omega
 have m3:((i:Int)=(i:Int)+1-1)=True:=by simp only[Ah,iff_true];omega
 have m4:((i:Int)+1=(i:Int)-1)=False:=by simp only[Ah,Dn];omega
 refine kE Tryz.func254 ?_;intro F B X w0;have hl:=cO 0 1 F rfl rfl;rw[uC]at hl;dsimp only at hl;refine ac (cE (Nat.beq 61) (b:=true)) (aQ m1 m2 m3 m4 M) (ai h1 h2) ?_;refine dR (κ:=Nat) (λ k=>k<=N) (λ k=>[(1, .int i),(3, .ptr 3 0 0 0),(7, .d (lr E)),(8, .int 0),(9, .int 1),(10, .ref 901 1 0 k k),(11, .int k)])
  (λ k=>match k with|0=>[]|j+1=>[⟨1,901,1,j+1,λ _=>(List.replicate N 0).map D.int⟩])
  (λ k=>match k with|0=>[(3, .cells [.int n, .d (am ls), .d (aw ar), .d (am cs)]),(901, .row 1 [])]|j+1=>[(3, .cells [.int n, .d (am ls), .d (aw ar), .d (am cs)])]) (λ k=>N-k) 0 ?_ ?_ ?_
 ·exact uF _
 ·refine kF aa [] [(901,61)] ?_;exact cK aa
 ·intro k hk;rcases uD k N with hkN|hkN
  ·cases k with
   |zero=>
    dsimp only;refine ac kO (aQ M K J hN.symm @gE.{0}) aa ?_;refine⟨1,?_,kF (ai @yT.{0,0} @yH.{0}) [(fid 1 0,79)] [(901,81)] ?_,?_⟩
    ·omega
    ·refine uM.2 ⟨⟨λ _=> .ref 79 1 0 N N,?_,λ r H=>?_⟩,yB _⟩
     ·rw[oR];simp(disch:=omega) only[go_sem,simprocAttr,gE]
     ·obtain rfl:r=0:=by dsimp only at H;omega
      simp(disch:=omega) only[go_sem,simprocAttr,yT,yH]
    ·omega
   |succ k=>
    dsimp only;refine ac kO (aE M K J hN.symm) aa ?_;refine⟨k+2,?_,kF (ai @yT.{0,0} @yH.{0}) [(fid 1 (k+1),79)] [(901,81)] ?_,?_⟩
    ·omega
    ·repeat' first|exact fmn|refine fmc ⟨?_,?_⟩
     all_goals refine⟨_,(by first|rfl|(simp(disch:=omega) only[go_sem,simprocAttr,yT,yH];done)|(simp(disch:=omega) only[go_sem,simprocAttr,yT,yH];rfl)),λ i hi=>?_⟩
     all_goals dsimp only at hi|-
     all_goals rcases gJ (i=k+1)with rfl|C
     all_goals try (exfalso;omega)
     all_goals try (simp(disch:=omega) only[go_sem,simprocAttr,yT,yH,dh,di];done)
     all_goals try (simp(disch:=omega) only[go_sem,simprocAttr,yT,yH,C,dh,di];done)
    ·omega
  ·cases k with
   |zero=>
    have G:E=[]:=by
     cases E with
     |nil=>rfl
     |cons e E=>have:=Z e xB;omega
    subst G;obtain rfl:N=0:=xA;dsimp only;refine ac kO (aE M K J hN.symm) aa ?_;refine aq (λ(u:Nat)=>u=0) (λ u=>[(10, .ref 901 1 0 0 0),(7, .d (lr [])),(12, .int u)]) (λ u=>[(901, .row 1 [])]) (λ u=>0) 0 ?_ ?_ ?_
    ·rfl
    ·exact kN aa []
    ·rintro u rfl;refine ac kO aa aa ?_;refine bZ (o:=901) rfl rfl xB ?_;simp[ma]
   |succ k=>
    obtain rfl:N=k+1:=xA;have hz0:∀r,da (fj (λ e=>e.1) (λ e=>e.2) E 0) (k+1) r=List.replicate (k+1) 0:=λ r=>by rw[BH,Hh]
    dsimp only;refine ac kO (aE M K J hN.symm) aa ?_;refine dR (λ(u:Nat)=>u<=E.length) (λ u=>[(7, .d (lr E)),(8, .int 0),(9, .int 1),(10, .ref 901 1 0 (k+1) (k+1)),(12, .int u)]) (λ u=>[⟨1,901,1,k+1,λ r=>(da (fj (λ e=>e.1) (λ e=>e.2) E u) (k+1) r).map D.int⟩]) (λ u=>[]) (λ u=>E.length-u) 0 ?_ ?_ ?_
    ·exact uF _
    ·refine kF aa [] [] ?_;exact cK (av hz0 @yT.{0,0} @yH.{0})
    ·intro u hu;rcases uD u E.length with hlu|hgu
     ·obtain⟨p,O⟩:=ak hlu;have hpi:=Z p (uA O);obtain⟨A,U⟩:∃A:Nat,p.1=A:=⟨(p.1).toNat,xA⟩;refine ac kO (ae O) aa ?_;refine dR (λ(v:Nat)=>v<=E.length) (λ v=>[(7, .d (lr E)),(8, .int 0),(9, .int 1),(10, .ref 901 1 0 (k+1) (k+1)),(12, .int u),(13, .int v)]) (λ v=>[⟨1,901,1,k+1,λ r=>(da (cM (λ e=>e.1) (λ e=>e.2) E u p v) (k+1) r).map D.int⟩]) (λ v=>[]) (λ v=>E.length-v) 0 ?_ ?_ ?_
      ·exact uF _
      ·refine kF aa [] [] ?_;exact cK (ae @BE)
      ·intro v hv;rcases uD v E.length with hlv|hgv
       ·obtain⟨q,R⟩:=ak hlv;have hqi:=Z q (uA R);obtain⟨V,T⟩:∃V:Nat,q.1=V:=⟨(q.1).toNat,xA⟩;by_cases Q:p.1=q.1
        ·have hm:=sU (own:=(λ e=>e.1)) (oth:=(λ e=>e.2)) (u:=u) (p:=p) R (λ h=>h.1 Q);refine ac kO (av O R Q) aa ?_;refine⟨v+1,?_,kF aa [] [] ?_,?_⟩
         ·omega
         ·exact cK (ae hm)
         ·omega
        ·by_cases I:q.2<p.2
         ·have hb:=AZ (own:=(λ e=>e.1)) (oth:=(λ e=>e.2)) (u:=u) (v:=v) (p:=p) hE A V;obtain⟨x,hx⟩:∃x,cM (λ e=>e.1) (λ e=>e.2) E u p v A V=x:=⟨_,rfl⟩;rw[hx]at hb;have hg:(da (cM (λ e=>e.1) (λ e=>e.2) E u p v) (k+1) A)[V]? =some x:=by rw[sj _ _ xA,hx]
          have hh:=BA (own:=(λ e=>e.1)) (oth:=(λ e=>e.2)) (u:=u) (p:=p) R Q I U T;have hst:(da (cM (λ e=>e.1) (λ e=>e.2) E u p v) (k+1) A).set V (x+1)=da (cM (λ e=>e.1) (λ e=>e.2) E u p (v+1)) (k+1) A:=Hg xA λ B=>by
           rw[hh];by_cases c:B=V
           ·subst c;rw[if_pos ⟨rfl,rfl⟩,if_pos rfl,hx]
           ·rw[if_neg (λ h=>c h.2),if_neg c];omega
          have hot:∀r,r≠A->da (cM (λ e=>e.1) (λ e=>e.2) E u p (v+1)) (k+1) r=da (cM (λ e=>e.1) (λ e=>e.2) E u p v) (k+1) r:=λ r H=>Hf _ _ λ B=>by rw[hh,if_neg (λ h=>H h.1)];omega
          have L:(da (cM (λ e=>e.1) (λ e=>e.2) E u p v) (k+1) A).length=k+1:=qa _ _ _;rw[U,T]at Q;have cA:A<k+1:=xA;have cB:V<k+1:=xA;refine aC _ (jb _ _ [901] 901 A 900 1 1 (k+1) (by first|rfl|(simp(disch:=omega) only[go_sem,simprocAttr];done)|(simp(disch:=omega) only[go_sem,simprocAttr];rfl)) (by first|(simp(disch:=omega) only[go_sem,simprocAttr];done)|(simp(disch:=omega) only[go_sem,simprocAttr];rfl)) (by first|(simp(disch:=omega) only[go_sem,simprocAttr];done)|(simp(disch:=omega) only[go_sem,simprocAttr];rfl)) (λ i hi S=>by simp(disch:=omega) only[go_sem,simprocAttr,S];(repeat' split)<;>exact .ref _ _ _ _ _ ⟨by simp(disch:=omega) only[go_sem,simprocAttr,S],by simp(disch:=omega) only[go_sem,simprocAttr,S]⟩) (by(repeat' first|refine iS ?_|exact iT (ids:=[901]) rfl rfl (uQ rfl)|refine iR ?_|refine iU ?_|refine iP ?_|refine iV ?_|refine iW ?_|refine iQ (by dsimp only;omega) (by dsimp only;omega) xA xA (uQ rfl) ?_);done) rfl rfl rfl) ?_;refine ac kO (bj O R U T Q I hg L) aa ?_;refine⟨v+1,?_,kF aa [(fid 1 A,900)] [] ?_,?_⟩
          ·omega
          ·exact fG (bq @hst.symm @yW.{0,0} @yJ.{0} @uC.{0,0} L hot) A
          ·omega
         ·have hm:=sU (own:=(λ e=>e.1)) (oth:=(λ e=>e.2)) (u:=u) (p:=p) R (λ h=>I h.2);refine ac kO (aE O R Q I) aa ?_;refine⟨v+1,?_,kF aa [] [] ?_,?_⟩
          ·omega
          ·exact cK (ae hm)
          ·omega
       ·have:v=E.length:=xA;subst this;have e1:=BG (own:=(λ e=>e.1)) (oth:=(λ e=>e.2)) O
        try dsimp only
        refine ac kO aa aa ?_;refine⟨u+1,?_,kF aa [] [] ?_,?_⟩
        ·omega
        ·exact cK (ae e1)
        ·omega
     ·have:u=E.length:=xA;subst this
      try dsimp only
      refine aC _ (k6 _ _ _ _ ⟨cc rfl,cc rfl,(by(repeat' first|exact fmn|refine fmc ⟨⟨uQ rfl,uQ rfl,by dsimp only;omega⟩,?_⟩);done)⟩ rfl [901] rfl rfl rfl rfl) ?_;refine ac kO aa aa ?_;refine bZ (o:=901) rfl rfl xB ?_;rw[uE xB,ma,gU,<-qE];exact yK λ r H=>rfl
theorem Qa (a:Lv)(i:Nat)(y z:List Int)(Y:Near a i y z)(hw:wide a):
  ah Tryz.prog 254 [lvD a, .int ((i:Int)+1), .int i] (am (ma (fj (λ e=>e.2) (λ e=>e.1) (bf y z a.2.2.1) (bf y z a.2.2.1).length) z.length)):=by
 have h1:=km a hw;rw[<-kt,Y.ok]at h1;obtain⟨s1,s2,s3⟩:=kh Y.ok;obtain⟨t1,t2⟩:=cF Y.ok;have K:=Y.hy;have J:=Y.hz;have hlt:=Y.lt;have h2:=u9 a i y z K J xA;have hEl:=rZ y z a.2.2.1;have s:=Y.ins;have hyl:=cV (uA Y.hy);have hzl:=cV (uA Y.hz);clear Y hw;generalize bf y z a.2.2.1=E at*;have hE:E.length<=1000:=xA;obtain⟨N,hN⟩:∃N,N=z.length:=⟨_,rfl⟩;rw[<-hN];have hN5:N<=512:=xA;have Z:∀e,e∈E->0<=e.2/\e.2<N:=λ e he=>by have:=s e he;omega
 obtain⟨n,ls,ar,cs⟩:=a;dsimp only at*;have M:((i:Int)+1).toNat=i+1:=xA;have m1:((i:Int)+1<i)=False:=by simp only[Ah,Dn];omega
 have m2:((i:Int)<(i:Int)+1)=True:=by simp only[Ah,iff_true];omega
 have m3:((i:Int)=(i:Int)+1-1)=True:=by simp only[Ah,iff_true];omega
 have m4:((i:Int)+1=(i:Int)-1)=False:=by simp only[Ah,Dn];omega
 refine kE Tryz.func254 ?_;intro F B X w0;have hl:=cO 0 1 F rfl rfl;rw[uC]at hl;dsimp only at hl;refine ac (cE (Nat.beq 61) (b:=true)) (aQ m1 m2 m3 m4 M) (ai h1 h2) ?_;refine dR (κ:=Nat) (λ k=>k<=N) (λ k=>[(1, .int ((i:Int)+1)),(3, .ptr 3 0 0 0),(7, .d (lr E)),(8, .int 1),(9, .int 0),(10, .ref 901 1 0 k k),(11, .int k)])
  (λ k=>match k with|0=>[]|j+1=>[⟨1,901,1,j+1,λ _=>(List.replicate N 0).map D.int⟩])
  (λ k=>match k with|0=>[(3, .cells [.int n, .d (am ls), .d (aw ar), .d (am cs)]),(901, .row 1 [])]|j+1=>[(3, .cells [.int n, .d (am ls), .d (aw ar), .d (am cs)])]) (λ k=>N-k) 0 ?_ ?_ ?_
 ·exact uF _
 ·refine kF aa [] [(901,61)] ?_;exact cK aa
 ·intro k hk;rcases uD k N with hkN|hkN
  ·cases k with
   |zero=>
    dsimp only;refine ac kO (aQ M K J hN.symm @gE.{0}) aa ?_;refine⟨1,?_,kF (ai @yT.{0,0} @yH.{0}) [(fid 1 0,79)] [(901,81)] ?_,?_⟩
    ·omega
    ·refine uM.2 ⟨⟨λ _=> .ref 79 1 0 N N,?_,λ r H=>?_⟩,yB _⟩
     ·rw[oR];simp(disch:=omega) only[go_sem,simprocAttr,gE]
     ·obtain rfl:r=0:=by dsimp only at H;omega
      simp(disch:=omega) only[go_sem,simprocAttr,yT,yH]
    ·omega
   |succ k=>
    dsimp only;refine ac kO (aE M K J hN.symm) aa ?_;refine⟨k+2,?_,kF (ai @yT.{0,0} @yH.{0}) [(fid 1 (k+1),79)] [(901,81)] ?_,?_⟩
    ·omega
    ·repeat' first|exact fmn|refine fmc ⟨?_,?_⟩
     all_goals refine⟨_,(by first|rfl|(simp(disch:=omega) only[go_sem,simprocAttr,yT,yH];done)|(simp(disch:=omega) only[go_sem,simprocAttr,yT,yH];rfl)),λ i hi=>?_⟩
     all_goals dsimp only at hi|-
     all_goals rcases gJ (i=k+1)with rfl|C
     all_goals try (exfalso;omega)
     all_goals try (simp(disch:=omega) only[go_sem,simprocAttr,yT,yH,dh,di];done)
     all_goals try (simp(disch:=omega) only[go_sem,simprocAttr,yT,yH,C,dh,di];done)
    ·omega
  ·cases k with
   |zero=>
    have G:E=[]:=by
     cases E with
     |nil=>rfl
     |cons e E=>have:=Z e xB;omega
    subst G;obtain rfl:N=0:=xA;dsimp only;refine ac kO (aE M K J hN.symm) aa ?_;refine aq (λ(u:Nat)=>u=0) (λ u=>[(10, .ref 901 1 0 0 0),(7, .d (lr [])),(12, .int u)]) (λ u=>[(901, .row 1 [])]) (λ u=>0) 0 ?_ ?_ ?_
    ·rfl
    ·exact kN aa []
    ·rintro u rfl;refine ac kO aa aa ?_;refine bZ (o:=901) rfl rfl xB ?_;simp[ma]
   |succ k=>
    obtain rfl:N=k+1:=xA;have hz0:∀r,da (fj (λ e=>e.2) (λ e=>e.1) E 0) (k+1) r=List.replicate (k+1) 0:=λ r=>by rw[BH,Hh]
    dsimp only;refine ac kO (aE M K J hN.symm) aa ?_;refine dR (λ(u:Nat)=>u<=E.length) (λ u=>[(7, .d (lr E)),(8, .int 1),(9, .int 0),(10, .ref 901 1 0 (k+1) (k+1)),(12, .int u)]) (λ u=>[⟨1,901,1,k+1,λ r=>(da (fj (λ e=>e.2) (λ e=>e.1) E u) (k+1) r).map D.int⟩]) (λ u=>[]) (λ u=>E.length-u) 0 ?_ ?_ ?_
    ·exact uF _
    ·refine kF aa [] [] ?_;exact cK (av hz0 @yT.{0,0} @yH.{0})
    ·intro u hu;rcases uD u E.length with hlu|hgu
     ·obtain⟨p,O⟩:=ak hlu;have hpi:=Z p (uA O);obtain⟨A,U⟩:∃A:Nat,p.2=A:=⟨(p.2).toNat,xA⟩;refine ac kO (ae O) aa ?_;refine dR (λ(v:Nat)=>v<=E.length) (λ v=>[(7, .d (lr E)),(8, .int 1),(9, .int 0),(10, .ref 901 1 0 (k+1) (k+1)),(12, .int u),(13, .int v)]) (λ v=>[⟨1,901,1,k+1,λ r=>(da (cM (λ e=>e.2) (λ e=>e.1) E u p v) (k+1) r).map D.int⟩]) (λ v=>[]) (λ v=>E.length-v) 0 ?_ ?_ ?_
      ·exact uF _
      ·refine kF aa [] [] ?_;exact cK (ae @BE)
      ·intro v hv;rcases uD v E.length with hlv|hgv
       ·obtain⟨q,R⟩:=ak hlv;have hqi:=Z q (uA R);obtain⟨V,T⟩:∃V:Nat,q.2=V:=⟨(q.2).toNat,xA⟩;by_cases Q:p.2=q.2
        ·have hm:=sU (own:=(λ e=>e.2)) (oth:=(λ e=>e.1)) (u:=u) (p:=p) R (λ h=>h.1 Q);refine ac kO (av O R Q) aa ?_;refine⟨v+1,?_,kF aa [] [] ?_,?_⟩
         ·omega
         ·exact cK (ae hm)
         ·omega
        ·by_cases I:q.1<p.1
         ·have hb:=AZ (own:=(λ e=>e.2)) (oth:=(λ e=>e.1)) (u:=u) (v:=v) (p:=p) hE A V;obtain⟨x,hx⟩:∃x,cM (λ e=>e.2) (λ e=>e.1) E u p v A V=x:=⟨_,rfl⟩;rw[hx]at hb;have hg:(da (cM (λ e=>e.2) (λ e=>e.1) E u p v) (k+1) A)[V]? =some x:=by rw[sj _ _ xA,hx]
          have hh:=BA (own:=(λ e=>e.2)) (oth:=(λ e=>e.1)) (u:=u) (p:=p) R Q I U T;have hst:(da (cM (λ e=>e.2) (λ e=>e.1) E u p v) (k+1) A).set V (x+1)=da (cM (λ e=>e.2) (λ e=>e.1) E u p (v+1)) (k+1) A:=Hg xA λ B=>by
           rw[hh];by_cases c:B=V
           ·subst c;rw[if_pos ⟨rfl,rfl⟩,if_pos rfl,hx]
           ·rw[if_neg (λ h=>c h.2),if_neg c];omega
          have hot:∀r,r≠A->da (cM (λ e=>e.2) (λ e=>e.1) E u p (v+1)) (k+1) r=da (cM (λ e=>e.2) (λ e=>e.1) E u p v) (k+1) r:=λ r H=>Hf _ _ λ B=>by rw[hh,if_neg (λ h=>H h.1)];omega
          have L:(da (cM (λ e=>e.2) (λ e=>e.1) E u p v) (k+1) A).length=k+1:=qa _ _ _;rw[U,T]at Q;have cA:A<k+1:=xA;have cB:V<k+1:=xA;refine aC _ (jb _ _ [901] 901 A 900 1 1 (k+1) (by first|rfl|(simp(disch:=omega) only[go_sem,simprocAttr];done)|(simp(disch:=omega) only[go_sem,simprocAttr];rfl)) (by first|(simp(disch:=omega) only[go_sem,simprocAttr];done)|(simp(disch:=omega) only[go_sem,simprocAttr];rfl)) (by first|(simp(disch:=omega) only[go_sem,simprocAttr];done)|(simp(disch:=omega) only[go_sem,simprocAttr];rfl)) (λ i hi S=>by simp(disch:=omega) only[go_sem,simprocAttr,S];(repeat' split)<;>exact .ref _ _ _ _ _ ⟨by simp(disch:=omega) only[go_sem,simprocAttr,S],by simp(disch:=omega) only[go_sem,simprocAttr,S]⟩) (by(repeat' first|refine iS ?_|exact iT (ids:=[901]) rfl rfl (uQ rfl)|refine iR ?_|refine iU ?_|refine iP ?_|refine iV ?_|refine iW ?_|refine iQ (by dsimp only;omega) (by dsimp only;omega) xA xA (uQ rfl) ?_);done) rfl rfl rfl) ?_;refine ac kO (bj O R U T Q I hg L) aa ?_;refine⟨v+1,?_,kF aa [(fid 1 A,900)] [] ?_,?_⟩
          ·omega
          ·exact fG (bq @hst.symm @yW.{0,0} @yJ.{0} @uC.{0,0} L hot) A
          ·omega
         ·have hm:=sU (own:=(λ e=>e.2)) (oth:=(λ e=>e.1)) (u:=u) (p:=p) R (λ h=>I h.2);refine ac kO (aE O R Q I) aa ?_;refine⟨v+1,?_,kF aa [] [] ?_,?_⟩
          ·omega
          ·exact cK (ae hm)
          ·omega
       ·have:v=E.length:=xA;subst this;have e1:=BG (own:=(λ e=>e.2)) (oth:=(λ e=>e.1)) O
        try dsimp only
        refine ac kO aa aa ?_;refine⟨u+1,?_,kF aa [] [] ?_,?_⟩
        ·omega
        ·exact cK (ae e1)
        ·omega
     ·have:u=E.length:=xA;subst this
      try dsimp only
      refine aC _ (k6 _ _ _ _ ⟨cc rfl,cc rfl,(by(repeat' first|exact fmn|refine fmc ⟨⟨uQ rfl,uQ rfl,by dsimp only;omega⟩,?_⟩);done)⟩ rfl [901] rfl rfl rfl rfl) ?_;refine ac kO aa aa ?_;refine bZ (o:=901) rfl rfl xB ?_;rw[uE xB,ma,gU,<-qE];exact yK λ r H=>rfl
theorem Near.tabD {a:Lv}{i:Nat}{y z:List Int}(h:Near a i y z):bb a i ((i:Int)+1)=ma (fj (λ e=>e.1) (λ e=>e.2) (bf y z a.2.2.1) (bf y z a.2.2.1).length) y.length:=by
 have V:(cj a.2.1 a.2.2.1 i ((i:Int)+1) y.length).length=y.length:=by simp[cj]
 rw[h.matD,eo,V,ma];refine yK λ u Z=>?_
 rw[da];refine yK λ v Y=>?_
 have Z:=yD.1 Z;have Y:=yD.1 Y;rw[<-rb xA xA,<-h.matD,h.cellD Z Y,fj,yE];split
 ·rename_i c;rw[<-sT (bf y z a.2.2.1) (bf y z a.2.2.1)];exact mc λ x _ w _=>(li λ h=>h.2.2.1 xA).symm
 ·rename_i c;exact mc λ x _ w _=>nf ⟨λ h=>⟨h.1,h.2.1,λ X=>c (Int.ofNat_inj.1 (h.1.symm.trans ((show x.1=w.1 from X).trans h.2.1))),h.2.2⟩,λ h=>⟨h.1,h.2.1,h.2.2.2⟩⟩
theorem Near.tabU {a:Lv}{i:Nat}{y z:List Int}(h:Near a i y z):bb a ((i:Int)+1) i=ma (fj (λ e=>e.2) (λ e=>e.1) (bf y z a.2.2.1) (bf y z a.2.2.1).length) z.length:=by
 have V:(cj a.2.1 a.2.2.1 ((i+1:Nat):Int) i z.length).length=z.length:=by simp[cj]
 rw[h.matU,eo,V,ma];refine yK λ u Z=>?_
 rw[da];refine yK λ v Y=>?_
 have Z:=yD.1 Z;have Y:=yD.1 Y;rw[<-rb xA xA,<-h.matU,h.cellU Z Y,fj,yE];split
 ·rename_i c;rw[<-sT (bf y z a.2.2.1) (bf y z a.2.2.1)];exact mc λ x _ w _=>(li λ h=>h.2.2.1 xA).symm
 ·rename_i c;exact mc λ x _ w _=>nf ⟨λ h=>⟨h.1,h.2.1,λ X=>c (Int.ofNat_inj.1 (h.1.symm.trans ((show x.2=w.2 from X).trans h.2.1))),h.2.2⟩,λ h=>⟨h.1,h.2.1,h.2.2.2⟩⟩
theorem P9 (a:Lv)(i f:Int)(R:wide a)(Y:dC a i f=false):ah Tryz.prog 254 [lvD a, .int i, .int f] (am []):=by
 have Z:=km a R;rw[<-kt]at Z;rw[dC]at Y;rcases V:aH a with _|_<;>rw[V]at Z Y
 ·refine kE Tryz.func254 ?_;intro h B X O;refine ac kO aa (ae Z) ?_;exact dH rfl
 ·simp only[jZ,Bool.and_eq_false_iff,qJ]at Y;obtain⟨Q,K⟩:=cF V;obtain⟨n,T,N,M⟩:=a;dsimp only at Y Q;have S:i<0\/T.length<=i\/f<0\/T.length<=f\/(¬f=i-1/\¬f=i+1):=xA;refine kE Tryz.func254 ?_;intro h B X O;have U:=cO 0 1 h rfl rfl;rw[uC]at U;dsimp only at U;refine kw kO aa (ae Z) ?_
  repeat' first|exact True.intro|refine Bn.mk ?_ ?_|intro L
  all_goals exact dH rfl
theorem Qb (a:Lv)(i f:Int)(X:wide a):ah Tryz.prog 254 [lvD a, .int i, .int f] (am (bb a i f)):=by
 rcases h:dC a i f with _|_
 ·rw[bb,h,if_neg xC];exact P9 a i f X h
 ·simp only[dC,uN,uG]at h;obtain⟨⟨⟨V,U⟩,T⟩,Y⟩:=h;rcases Y with Y|Y
  ·obtain⟨k,rfl⟩:∃n:Nat,f=n:=⟨f.toNat,xA⟩;obtain rfl:i=(k:Int)+1:=xA;obtain⟨y,z,Z⟩:=pS V (i:=k) xA;rw[Z.tabU];exact Qa a k y z Z X
  ·obtain⟨k,rfl⟩:∃n:Nat,i=n:=⟨i.toNat,xA⟩;subst Y;obtain⟨y,z,Z⟩:=pS V (i:=k) xA;rw[Z.tabD];exact P8 a k y z Z X
end Go.Proofs.YtjjbhjnpeenbkaaGreatDoor
namespace Go.Proofs.YtjjbhjnpeenbkaaGreatDoor
open Go Go.PS Go.Proofs
open Go.Bd (aI mN mO zd)
theorem zb {c d:Nat->Nat->Int}:∀{l:List Nat},l.Nodup->(∀u,u∈l->∀v,v∈l->u≠v->c u v=d u v)->aI c l=aI d l
 |[],_,_=>rfl
 |u::l,U,h=>by
  obtain⟨Y,X⟩:=qI.1 U;have e:l.map (c u)=l.map (d u):=yK λ v Z=>h u xB v (uP _ Z) λ V=>Y (V▸Z)
  rw[aI,aI,e,zb X λ u T v Z=>h u (uP _ T) v (uP _ Z)]
theorem H8 (f:Nat->Nat->Pr->Int)(l:List Nat):∀F:List Pr,aI (λ u v=>w1 (f u v) F) l=w1 (λ y=>aI (λ u v=>f u v y) l) F
 |[]=>by simp only[w1];exact mO l
 |y::F=>by simp only[w1];rw[mN,H8 f l F]
theorem H6 (f:Nat->Nat->Pr->Pr->Int)(l:List Nat)(F:List Pr):∀E:List Pr,aI (λ u v=>W (f u v) F E) l=W (λ x y=>aI (λ u v=>f u v x y) l) F E
 |[]=>by simp only[W];exact mO l
 |x::E=>by simp only[W];rw[mN,H8,H6 f l F E]
theorem H7 {own oth:Pr->Int}{P:List Pr}{o:List Nat}{c:Nat->Nat->Int}(X:o.Nodup)(Y:∀e,e∈P->0<=own e/\(own e).toNat∈o)
  (U:∀u,u∈o->∀v,v∈o->u≠v->c u v=W (λ x w=>ind (own x=(u:Int)/\own w=(v:Int)/\oth w<oth x)) P P):
  aI c o=W (λ x w=>ind (o.idxOf (own x).toNat<o.idxOf (own w).toNat/\oth w<oth x)) P P:=by
 rw[zb X U,H6];refine mc λ x S w T=>?_
 obtain⟨O,R⟩:=Y x S;obtain⟨N,Q⟩:=Y w T;have e:∀u v:Nat,ind (own x=(u:Int)/\own w=(v:Int)/\oth w<oth x)=if u=(own x).toNat/\v=(own w).toNat then ind (oth w<oth x)else 0:=λ u v=>by
  by_cases h:u=(own x).toNat/\v=(own w).toNat
  ·rw[if_pos h];exact nf ⟨λ Z=>Z.2.2,λ Z=>⟨xA,xA,Z⟩⟩
  ·rw[if_neg h];exact li λ Z=>h xA
 have V:(λ u v:Nat=>ind (own x=(u:Int)/\own w=(v:Int)/\oth w<oth x))=λ u v=>if u=(own x).toNat/\v=(own w).toNat then ind (oth w<oth x)else 0:=funext λ u=>funext λ v=>e u v
 rw[V,zd _ _ _ o X R Q];by_cases h:o.idxOf (own x).toNat<o.idxOf (own w).toNat
 ·rw[if_pos h];exact nf ⟨λ Z=>⟨h,Z⟩,λ Z=>Z.2⟩
 ·rw[if_neg h];exact(li λ Z=>h Z.1).symm
end Go.Proofs.YtjjbhjnpeenbkaaGreatDoor
