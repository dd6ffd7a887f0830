/- Contracts of small functions on ranking problems. -/
import Derived.Test.YtjjbhjnpeenbkaaGreatDoorTypes
set_option linter.unusedSimpArgs false
set_option linter.unusedVariables false
set_option maxHeartbeats 16000000
namespace Go.Proofs.YtjjbhjnpeenbkaaGreatDoor.Sx
open Go Go.PS Go.Proofs
set_option maxRecDepth 100000
attribute [local irreducible] Zad wpG Zaa
abbrev Bd :=Int×Int×Int×Int
abbrev bdD (b:Bd):D:= .ag [.int b.1, .int b.2.1, .int b.2.2.1, .int b.2.2.2]
abbrev Zbx (l:List Bd):D:= .sl (l.map bdD)
abbrev Zab (l:List Int):D:= .sl (l.map D.int)
abbrev Net :=Int×List Bd
abbrev nD (n:Net):D:= .ag [.int n.1,Zbx n.2]
theorem ZfZ (a b:Int):(if b<a then b else a)=min a b:=by omega
theorem Zgv (a b:Int):(if a<b then b else a)=max a b:=by omega
def bdIn (n:Int)(b:Bd):Bool:=decide (0<=b.1/\b.1<n/\0<=b.2.1/\b.2.1<n/\b.1≠b.2.1/\-16777216<=b.2.2.1/\b.2.2.1<=16777216/\0<=b.2.2.2/\b.2.2.2<=8000)
def nOk (n:Net):Bool:=decide (0<=n.1/\n.1<=2048/\n.2.length<=4096)&& !n.2.any (λ b=> !bdIn n.1 b)
theorem Zft {n:Net}(h:nOk n=true):0<=n.1/\n.1<=2048/\n.2.length<=4096/\∀(k:Nat) b,n.2[k]? =some b->
  0<=b.1/\b.1<n.1/\0<=b.2.1/\b.2.1<n.1/\b.1≠b.2.1/\-16777216<=b.2.2.1/\b.2.2.1<=16777216/\0<=b.2.2.2/\b.2.2.2<=8000:=by
 simp only[nOk,uM,uF,yI,qA]at h;obtain⟨⟨h1,h2,h3⟩,h4⟩:=h;refine⟨h1,h2,h3,λ k b hk=>?_⟩;have:=h4 b (uA hk);simpa[bdIn]using this
theorem Zgg (g:Net):Zaa Tryz.prog 159 [nD g] (.bool (nOk g)):=by
 obtain⟨n,l⟩:=g;refine kE Tryz.func159 ?_;intro hat B X w0;have hl:=Zb7 0 1 hat rfl rfl;rw[uD]at hl;refine kw kO kc0 kc0 ?_
 repeat' first|exact True.intro|refine Bn.mk ?_ ?_|intro hc
 all_goals try (refine Zai ?_;simp[nOk];omega)
 refine Zae (λ(k:Nat)=>k<=l.length/\∀(j:Nat) y,j<k->l[j]? =some y->(!bdIn n y)=false) (λ k=>[(1, .ptr 1 0 0 0),(20, .d (Zbx l)),(21, .int l.length),(22, .int k)]) (λ k=>[(1, .cells [.int n, .d (Zbx l)])]) (λ k=>l.length-k) 0 ?_ ?_ ?_
 ·exact⟨uG _,λ j y h=>by omega⟩
 ·exact kN kc0 []
 ·rintro k ⟨hk,hinv⟩;rcases uC k l.length with hlt|hge
  ·obtain⟨p,hp⟩:=Zac hlt;refine kw kO (kc3 hp @ZfZ @Zgv) kc0 ?_
   repeat' first|exact True.intro|refine Bn.mk ?_ ?_|intro hc
   all_goals try
    refine Zai ?_;rw[nOk,Zb0 hp (by rw[bdIn,yI,yZ];omega)];simp
   ·refine⟨k+1,?_,eL [] _ _ (by refine⟨?_,?_⟩<;>(repeat' first|exact fmn|refine fmc ⟨(by first|rfl|(simp(disch:=omega) only[go_sem,simprocAttr,inL];first|done|omega|(congr 1;done))),?_⟩);done),?_⟩
    ·exact⟨by omega,Zbj hinv hp (by rw[bdIn,Ak,uF];omega)⟩
    ·omega
  ·refine kw1 kO kc0 kc0 ?_;refine Zai ?_;rw[nOk,Zck (λ j y hj=>hinv j y (by omega))];simp;omega
theorem Zh8 (g:Net):Zaa Tryz.prog 133 [nD g] (.bool (nOk g)):=by
 obtain⟨n,l⟩:=g;refine kE Tryz.func133 ?_;intro hat B X w0;have hl:=Zb7 0 1 hat rfl rfl;rw[uD]at hl;refine kw kO kc0 kc0 ?_
 repeat' first|exact True.intro|refine Bn.mk ?_ ?_|intro hc
 all_goals try (refine Zai ?_;simp[nOk];omega)
 refine Zae (λ(k:Nat)=>k<=l.length/\∀(j:Nat) y,j<k->l[j]? =some y->(!bdIn n y)=false) (λ k=>[(1, .ptr 1 0 0 0),(3, .int k)]) (λ k=>[(1, .cells [.int n, .d (Zbx l)])]) (λ k=>l.length-k) 0 ?_ ?_ ?_
 ·exact⟨uG _,λ j y h=>by omega⟩
 ·exact kN kc0 []
 ·rintro k ⟨hk,hinv⟩;rcases uC k l.length with hlt|hge
  ·obtain⟨p,hp⟩:=Zac hlt;refine kw kO (kc1 hp) kc0 ?_
   repeat' first|exact True.intro|refine Bn.mk ?_ ?_|intro hc
   all_goals try
    refine Zai ?_;rw[nOk,Zb0 hp (by rw[bdIn,yI,yZ];omega)];simp
   ·refine⟨k+1,?_,eL [] _ _ (by refine⟨?_,?_⟩<;>(repeat' first|exact fmn|refine fmc ⟨(by first|rfl|(simp(disch:=omega) only[go_sem,simprocAttr,inL];first|done|omega|(congr 1;done))),?_⟩);done),?_⟩
    ·exact⟨by omega,Zbj hinv hp (by rw[bdIn,Ak,uF];omega)⟩
    ·omega
  ·refine kw1 kO kc0 kc0 ?_;refine Zai ?_;rw[nOk,Zck (λ j y hj=>hinv j y (by omega))];simp;omega
def Zh9 (x:Int):Bool:=decide (-34359738368<=x/\x<=34359738368)
def rkOk (g:Net)(r:List Int):Bool:=nOk g&&decide ((r.length:Int)=g.1)&& !r.any (λ x=> !Zh9 x)
def at0 (r:List Int)(v:Int):Int:=(r[v.toNat]?).getD 0
theorem Zdq {r:List Int}{v:Int}(h1:0<=v)(h2:v<r.length):r[v.toNat]? =some (at0 r v):=by
 obtain⟨x,hx⟩:=Zac (show v.toNat<r.length by omega);rw[at0,hx];rfl
theorem Zkf {g:Net}{r:List Int}(h:rkOk g r=true):nOk g=true/\(r.length:Int)=g.1/\∀v:Int,0<=v->v<g.1->r[v.toNat]? =some (at0 r v)/\-34359738368<=at0 r v/\at0 r v<=34359738368:=by
 simp only[rkOk,uM,uF,yI,qA]at h;obtain⟨⟨h1,h2⟩,h3⟩:=h;refine⟨h1,h2,λ v hv1 hv2=>?_⟩;have:=Zdq hv1 (show v<r.length by omega);refine⟨this,?_⟩;have:=h3 _ (uA this);simpa[Zh9]using this
theorem Zij (g:Net)(r:List Int):Zaa Tryz.prog 85 [nD g,Zab r] (.bool (rkOk g r)):=by
 rcases hg:nOk g with _|_
 ·have hv:Zaa Tryz.prog 133 [nD g] (.bool false):=hg▸Zh8 g;refine kE Tryz.func85 ?_;intro hat B X w0;refine kw1 kO kc0 (kc1 hv) ?_
  all_goals (refine Zai ?_;simp[rkOk,hg])
 ·have hv:Zaa Tryz.prog 133 [nD g] (.bool true):=hg▸Zh8 g;obtain⟨h1,h2,h3,h4⟩:=Zft hg;refine kE Tryz.func85 ?_;intro hat B X w0;have hl:=ZaY 1 hat rfl;rw[uD]at hl;refine kw kO kc0 (kc1 hv) ?_
  repeat' first|exact True.intro|refine Bn.mk ?_ ?_|intro hc
  all_goals try (refine Zai ?_;simp[rkOk,hg];omega)
  refine Zae (λ(k:Nat)=>k<=r.length/\∀(j:Nat) y,j<k->r[j]? =some y->(!Zh9 y)=false) (λ k=>[(1, .d (Zab r)),(5, .int k)]) (λ k=>[]) (λ k=>r.length-k) 0 ?_ ?_ ?_
  ·exact⟨uG _,λ j y h=>by omega⟩
  ·exact kN kc0 []
  ·rintro k ⟨hk,hinv⟩;rcases uC k r.length with hlt|hge
   ·obtain⟨p,hp⟩:=Zac hlt;refine kw kO (kc1 hp) kc0 ?_
    repeat' first|exact True.intro|refine Bn.mk ?_ ?_|intro hc
    all_goals try
     refine Zai ?_;rw[rkOk,Zb0 hp (by rw[Zh9,yI,yZ];omega)];simp
    ·refine⟨k+1,?_,eL [] _ _ (by refine⟨?_,?_⟩<;>(repeat' first|exact fmn|refine fmc ⟨(by first|rfl|(simp(disch:=omega) only[go_sem,simprocAttr,inL];first|done|omega|(congr 1;done))),?_⟩);done),?_⟩
     ·exact⟨by omega,Zbj hinv hp (by rw[Zh9,Ak,uF];omega)⟩
     ·omega
   ·refine kw1 kO kc0 kc0 ?_;refine Zai ?_;rw[rkOk,Zck (λ j y hj=>hinv j y (by omega))];simp[hg];omega
def gap (r:List Int)(b:Bd):Int:=at0 r b.2.1-at0 r b.1
def feasF (g:Net)(r:List Int):Bool:=rkOk g r&& !g.2.any (λ b=>decide (gap r b<b.2.2.1))
theorem rFeasible_spec (g:Net)(r:List Int):Zaa Tryz.prog 38 [nD g,Zab r] (.bool (feasF g r)):=by
 rcases hr:rkOk g r with _|_
 ·have hv:Zaa Tryz.prog 85 [nD g,Zab r] (.bool false):=hr▸Zij g r;refine kE Tryz.func38 ?_;intro hat B X w0;refine kw1 kO kc0 (kc1 hv) ?_;refine Zai ?_;simp[feasF,hr]
 ·have hv:Zaa Tryz.prog 85 [nD g,Zab r] (.bool true):=hr▸Zij g r;obtain⟨hg,hlen,hat0⟩:=Zkf hr;obtain⟨h1,h2,h3,h4⟩:=Zft hg;obtain⟨n,l⟩:=g;dsimp only at h1 h2 h3 h4 hlen hat0;refine kE Tryz.func38 ?_;intro hat B X w0;refine kw1 kO kc0 (kc1 hv) ?_;refine Zae (λ(k:Nat)=>k<=l.length/\∀(j:Nat) y,j<k->l[j]? =some y->decide (gap r y<y.2.2.1)=false) (λ k=>[(1, .d (Zab r)),(2, .ptr 2 0 0 0),(5, .int k)]) (λ k=>[(2, .cells [.int n, .d (Zbx l)])]) (λ k=>l.length-k) 0 ?_ ?_ ?_
  ·exact⟨uG _,λ j y h=>by omega⟩
  ·exact kN kc0 []
  ·rintro k ⟨hk,hinv⟩;rcases uC k l.length with hlt|hge
   ·obtain⟨p,hp⟩:=Zac hlt;have hb:=h4 k p hp;obtain⟨e1,e2,e3⟩:=hat0 p.1 (by omega) (by omega);obtain⟨f1,f2,f3⟩:=hat0 p.2.1 (by omega) (by omega);refine kw kO (kc3 hp e1 f1) kc0 ?_
    repeat' first|exact True.intro|refine Bn.mk ?_ ?_|intro hc
    ·refine Zai ?_;rw[feasF,Zb0 hp (by rw[gap,uF];omega)];simp
    ·refine⟨k+1,?_,eL [] _ _ (by refine⟨?_,?_⟩<;>(repeat' first|exact fmn|refine fmc ⟨(by first|rfl|(simp(disch:=omega) only[go_sem,simprocAttr,inL];first|done|omega|(congr 1;done))),?_⟩);done),?_⟩
     ·exact⟨by omega,Zbj hinv hp (by rw[gap,yZ];omega)⟩
     ·omega
   ·refine kw1 kO kc0 kc0 ?_;refine Zai ?_;rw[feasF,Zck (λ j y hj=>hinv j y (by omega)),hr];rfl
def Zar (f:Nat->Int):Nat->Int
 |0=>0
 |k+1=>Zar f k+f k
theorem Zcp (f:Nat->Int)(k:Nat):Zar f (k+1)=Zar f k+f k:=rfl
theorem sumI_le {f:Nat->Int}{c:Int}{m:Nat}(h:∀k,k<m->-c<=f k/\f k<=c):∀k,k<=m->-(c*k)<=Zar f k/\Zar f k<=c*k:=by
 intro k
 induction k with
 |zero=>intro _;simp[Zar]
 |succ k ih=>
  intro hk;have h1:=ih (by omega);have h2:=h k (by omega);have:c*((k+1:Nat):Int)=c*k+c:=by rw[Int.natCast_succ,zH,Int.mul_one]
  rw[Zar,this];omega
def costAt (r:List Int)(l:List Bd)(k:Nat):Int:=match l[k]? with
 |some b=>b.2.2.2*gap r b
 |none=>0
theorem costAt_some {r:List Int}{l:List Bd}{k:Nat}{b:Bd}(h:l[k]? =some b):costAt r l k=b.2.2.2*(at0 r b.2.1-at0 r b.1):=by simp[costAt,h,gap]
def costF (g:Net)(r:List Int):Int:=if rkOk g r then Zar (costAt r g.2) g.2.length else 0
theorem Zzj {w x c d:Int}(h1:0<=w)(h2:w<=c)(h3:-d<=x)(h4:x<=d):-(c*d)<=w*x/\w*x<=c*d:=by
 have hd:0<=d:=by omega
 have e1:w*x<=w*d:=jD h4 h1;have e2:w*d<=c*d:=jX h2 hd;have e3:w*-d<=w*x:=jD h3 h1;rw[Int.mul_neg]at e3;omega
theorem ZwI {g:Net}{r:List Int}(hr:rkOk g r=true):(∀k,k<g.2.length->-549755813888000<=costAt r g.2 k/\costAt r g.2 k<=549755813888000):=by
 obtain⟨hg,hlen,hat0⟩:=Zkf hr;obtain⟨h1,h2,h3,h4⟩:=Zft hg;intro k hk;obtain⟨b,hb⟩:=Zac hk;have:=h4 k b hb;obtain⟨e1,e2,e3⟩:=hat0 b.1 (by omega) (by omega);obtain⟨f1,f2,f3⟩:=hat0 b.2.1 (by omega) (by omega);rw[costAt_some hb];have:=Zzj (w:=b.2.2.2) (x:=at0 r b.2.1-at0 r b.1) (c:=8000) (d:=68719476736) (by omega) (by omega) (by omega) (by omega);omega
theorem rCost_spec (g:Net)(r:List Int):Zaa Tryz.prog 39 [nD g,Zab r] (.int (costF g r)):=by
 rcases hr:rkOk g r with _|_
 ·have hv:Zaa Tryz.prog 85 [nD g,Zab r] (.bool false):=hr▸Zij g r;refine kE Tryz.func39 ?_;intro hat B X w0;refine kw1 kO kc0 (kc1 hv) ?_;refine Zaf ?_;simp[costF,hr]
 ·have hv:Zaa Tryz.prog 85 [nD g,Zab r] (.bool true):=hr▸Zij g r;have hcb:=ZwI hr;obtain⟨hg,hlen,hat0⟩:=Zkf hr;obtain⟨h1,h2,h3,h4⟩:=Zft hg;obtain⟨n,l⟩:=g;dsimp only at h1 h2 h3 h4 hlen hat0 hcb;refine kE Tryz.func39 ?_;intro hat B X w0;refine kw1 kO kc0 (kc1 hv) ?_;refine Zae (λ(k:Nat)=>k<=l.length) (λ k=>[(1, .d (Zab r)),(2, .ptr 2 0 0 0),(5, .int (Zar (costAt r l) k)),(6, .int k)]) (λ k=>[(2, .cells [.int n, .d (Zbx l)])]) (λ k=>l.length-k) 0 ?_ ?_ ?_
  ·exact uG _
  ·exact kN kc0 []
  ·intro k hk;rcases uC k l.length with hlt|hge
   ·obtain⟨p,hp⟩:=Zac hlt;have hb:=h4 k p hp;obtain⟨e1,e2,e3⟩:=hat0 p.1 (by omega) (by omega);obtain⟨f1,f2,f3⟩:=hat0 p.2.1 (by omega) (by omega);have hs:=sumI_le hcb k (by omega);have hc1:=hcb k hlt;have hsu:=Zcp (costAt r l) k;rw[costAt_some hp]at hsu hc1;refine kw1 kO (kc3 hp e1 f1) kc0 ?_;refine⟨k+1,?_,kN (kc1 hsu) [],?_⟩
    ·omega
    ·omega
   ·refine kw1 kO kc0 kc0 ?_;refine Zaf ?_;have:k=l.length:=by omega
    simp[costF,hr,this]
def Zbq (l:List Bd)(f:List Int)(v:Int)(j:Nat):Int:=match l[j]?,f[j]? with
 |some b,some x=>(if b.2.1=v then x-b.2.2.2 else 0)-(if b.1=v then x-b.2.2.2 else 0)
 |_,_=>0
def ZcL (l:List Bd)(f:List Int)(n k:Nat):List Int:=(List.range n).map λ v:Nat=>Zar (Zbq l f v) k
theorem ZkQ (l:List Bd)(f:List Int)(n k:Nat):(ZcL l f n k).length=n:=by simp[ZcL]
theorem ZvB (l:List Bd)(f:List Int)(n:Nat):(ZcL l f n 0).map D.int=List.replicate n (D.int 0):=by
 rw[kX];refine⟨by simp[ZcL],λ b hb=>?_⟩;simp only[ZcL,gR,uP]at hb;obtain⟨u,_,rfl⟩:=hb;rfl
theorem Zjl {l:List Bd}{f:List Int}{n k u:Nat}(hu:u<n):(ZcL l f n k)[u]? =some (Zar (Zbq l f u) k):=by simp[ZcL,hu]
theorem ZvC {l:List Bd}{f:List Int}{n k i j:Nat}{b:Bd}{x:Int}(hb:l[k]? =some b)(hx:f[k]? =some x)(hi:b.1=i)(hj:b.2.1=j)(hij:i≠j)(hin:i<n)(hjn:j<n):
  ZcL l f n (k+1)=((ZcL l f n k).set j (Zar (Zbq l f j) k+(x-b.2.2.2))).set i (Zar (Zbq l f i) k-(x-b.2.2.2)):=by
 refine yS λ u=>?_
 by_cases hu:u<n
 ·rw[Zjl hu,Zcp,yX,yX,yJ,ZkQ,Zjl hu];have e:Zbq l f u k=(if b.2.1=(u:Int)then x-b.2.2.2 else 0)-(if b.1=(u:Int)then x-b.2.2.2 else 0):=by simp[Zbq,hb,hx]
  rw[e,hi,hj];by_cases c1:i=u
  ·subst c1;rw[if_neg (by omega),if_pos rfl,if_pos rfl,if_pos hu];congr 1;omega
  ·by_cases c2:j=u
   ·subst c2;rw[if_pos rfl,if_neg (by omega),if_neg c1,if_pos rfl,if_pos hu];congr 1;omega
   ·rw[if_neg (by omega),if_neg (by omega),if_neg c1,if_neg c2];congr 1;omega
 ·rw[uL (by rw[ZkQ];omega),uL (by rw[yJ,yJ,ZkQ];omega)]
def ZgA (r:List Int)(l:List Bd)(f:List Int)(j:Nat):Bool:=match l[j]?,f[j]? with
 |some b,some x=>decide (0<=x/\x<=1099511627776/\(0<x->gap r b=b.2.2.1))
 |_,_=>false
def checkF (g:Net)(r f:List Int):Bool:=feasF g r&&decide (f.length=g.2.length)&&ZeN (ZgA r g.2 f) g.2.length&& !(ZcL g.2 f g.1.toNat g.2.length).any (λ x=>decide (x≠0))
theorem ZpB {l:List Bd}{f r:List Int}{v:Int}{m:Nat}(hm:m<=l.length)(h4:∀(k:Nat) b,l[k]? =some b->0<=b.2.2.2/\b.2.2.2<=8000)(ho:ZeN (ZgA r l f) m=true):
  -(1099511635776*(m:Int))<=Zar (Zbq l f v) m/\Zar (Zbq l f v) m<=1099511635776*(m:Int):=by
 refine sumI_le (m:=m) (λ k hk=>?_) m (uI _);have:=Zmj.1 ho k hk;obtain⟨b,hb⟩:=Zac (show k<l.length by omega);have h5:=h4 k b hb;cases hx:f[k]? with
 |none=>simp[ZgA,hb,hx]at this
 |some x=>
  simp only[ZgA,hb,hx,uF]at this;simp only[Zbq,hb,hx];split<;>split<;>omega
theorem ZvD {l:List Bd}{f:List Int}{n k i j:Nat}{b:Bd}{x:Int}(hb:l[k]? =some b)(hx:f[k]? =some x)(hi:b.1=i)(hj:b.2.1=j)(hij:i≠j)(hin:i<n)(hjn:j<n):
  ZcL l f n (k+1)=((ZcL l f n k).set j (Zar (Zbq l f j) k+x-b.2.2.2)).set i (Zar (Zbq l f i) k-x+b.2.2.2):=by
 rw[ZvC hb hx hi hj hij hin hjn]
 congr 1
 ·congr 1;omega
 ·omega
theorem rCheck_spec (g:Net)(r f:List Int):Zaa Tryz.prog 32 [nD g,Zab r,Zab f] (.bool (checkF g r f)):=by
 rcases hf:feasF g r with _|_
 ·have hv:Zaa Tryz.prog 38 [nD g,Zab r] (.bool false):=hf▸rFeasible_spec g r;refine kE Tryz.func32 ?_;intro hat B X w0;have hl:=ZaY 2 hat rfl;rw[uD]at hl;refine kw1 kO kc0 (kc1 hv) ?_
  all_goals (refine Zai ?_;simp[checkF,hf])
 ·have hv:Zaa Tryz.prog 38 [nD g,Zab r] (.bool true):=hf▸rFeasible_spec g r;have hr:rkOk g r=true:=by simp only[feasF,uM]at hf;exact hf.1
  obtain⟨hg,hlen,hat0⟩:=Zkf hr;obtain⟨h1,h2,h3,h4⟩:=Zft hg;obtain⟨m,l⟩:=g;dsimp only at h1 h2 h3 h4 hlen hat0;obtain⟨n,rfl⟩:∃n:Nat,m=n:=⟨m.toNat,by omega⟩;by_cases hfl:f.length=l.length
  ·refine kE Tryz.func32 ?_;intro hat B X w0;refine kw1 (kow (Nat.beq 25) (b:=true)) (kc1 hfl) (kc1 hv) ?_;refine Zae (λ(k:Nat)=>k<=l.length/\ZeN (ZgA r l f) k=true) (λ k=>[(1, .d (Zab r)),(2, .d (Zab f)),(3, .ptr 3 0 0 0),(7, .ref 25 1 0 n n),(8, .int k)]) (λ k=>[(3, .cells [.int n, .d (Zbx l)]),(25, .row 1 ((ZcL l f n k).map D.int))]) (λ k=>l.length-k) 0 ?_ ?_ ?_
   ·exact⟨uG _,rfl⟩
   ·exact kN (kc1 @ZvB) []
   ·rintro k ⟨hk,hinv⟩;have hbl:=ZkQ l f n k;rcases uC k l.length with hlt|hge
    ·obtain⟨b,hb⟩:=Zac hlt;obtain⟨x,hx⟩:=Zac (show k<f.length by omega);have hbi:=h4 k b hb;obtain⟨i,hi⟩:∃i:Nat,b.1=i:=⟨b.1.toNat,by omega⟩;obtain⟨j,hj⟩:∃j:Nat,b.2.1=j:=⟨b.2.1.toNat,by omega⟩;obtain⟨e1,e2,e3⟩:=hat0 b.1 (by omega) (by omega);obtain⟨f1,f2,f3⟩:=hat0 b.2.1 (by omega) (by omega);have gi:(ZcL l f n k)[i]? =_:=Zjl (by omega);have gj:(ZcL l f n k)[j]? =_:=Zjl (by omega);have bi:=ZpB (v:=i) (show k<=l.length by omega) (λ k b hb=>by have:=h4 k b hb;omega) hinv;have bj:=ZpB (v:=j) (show k<=l.length by omega) (λ k b hb=>by have:=h4 k b hb;omega) hinv;have hst:=ZvD (n:=n) hb hx hi hj (by omega) (by omega) (by omega);rw[hi]at e1 e2 e3;rw[hj]at f1 f2 f3;rw[uK]at e1 f1;have hij:j≠i:=by omega
     have gs:((List.map D.int (ZcL l f n k)).set j (D.sc (.int .i64 (Zar (Zbq l f j) k+x-b.2.2.2))))[i]? =some (D.int (Zar (Zbq l f i) k)):=by
      rw[jH hij,uJ,gi];rfl
     refine kw kO (kc8 hb hx hi hj e1 f1 gi (kc4 gj gs hbl @yJ.{0})) kc0 ?_
     repeat' first|exact True.intro|refine Bn.mk ?_ ?_|intro hc
     all_goals try
      refine Zai ?_;rw[checkF,Zu7 hlt (by simp only[ZgA,hb,hx,gap,hi,hj,yZ];omega)];simp
     all_goals
      refine⟨k+1,?_,eL [] _ _ (by refine⟨?_,?_⟩<;>(repeat' first|exact fmn|refine fmc ⟨(by first|rfl|(simp(disch:=omega) only[go_sem,simprocAttr,inL,hst,yR];first|done|omega|(congr 1;done))),?_⟩);done),?_⟩
      ·exact⟨by omega,Zu8 hinv (by simp only[ZgA,hb,hx,gap,hi,hj,uF];omega)⟩
      ·omega
    ·have:k=l.length:=by omega
     subst this;refine kw1 kO (kc1 hbl) kc0 ?_;refine Zae (λ(u:Nat)=>u<=n/\∀(j:Nat) y,j<u->(ZcL l f n l.length)[j]? =some y->decide (y≠0)=false) (λ u=>[(3, .ptr 3 0 0 0),(7, .ref 25 1 0 n n),(10, .int u)]) (λ u=>[(3, .cells [.int n, .d (Zbx l)]),(25, .row 1 ((ZcL l f n l.length).map D.int))]) (λ u=>n-u) 0 ?_ ?_ ?_
     ·exact⟨uG _,λ j y h=>by omega⟩
     ·exact kN kc0 []
     ·rintro u ⟨hu,hinv2⟩;rcases uC u n with hult|huge
      ·have gu:(ZcL l f n l.length)[u]? =_:=Zjl hult;refine kw kO (kc2 gu hbl) kc0 ?_
       repeat' first|exact True.intro|refine Bn.mk ?_ ?_|intro hc
       ·refine Zai ?_;rw[checkF,uK,Zb0 gu (by simpa using hc)];simp
       ·refine⟨u+1,?_,eL [] _ _ (by refine⟨?_,?_⟩<;>(repeat' first|exact fmn|refine fmc ⟨(by first|rfl|(simp(disch:=omega) only[go_sem,simprocAttr,inL];first|done|omega|(congr 1;done))),?_⟩);done),?_⟩
        ·exact⟨by omega,Zbj hinv2 gu (by simpa using hc)⟩
        ·omega
      ·refine kw1 kO kc0 kc0 ?_;refine Zai ?_;rw[checkF,uK,hf,Zck (λ j y hj=>hinv2 j y (by omega)),hinv];simp[hfl]
  ·refine kE Tryz.func32 ?_;intro hat B X w0;have hl:=ZaY 2 hat rfl;rw[uD]at hl;refine kw1 kO kc0 (kc1 hv) ?_
   all_goals (refine Zai ?_;simp[checkF,hfl])
end Go.Proofs.YtjjbhjnpeenbkaaGreatDoor.Sx
namespace Go.Proofs.YtjjbhjnpeenbkaaGreatDoor.Sx
open Go Go.PS Go.Proofs
set_option maxRecDepth 100000
attribute [local irreducible] Zad wpG Zaa Zah
abbrev pD (n:Nat)(l:List Bd)(f:List Int):D:= .pt [.int n,Zbx l,Zab f]
def Zcd (n:Nat):List Int:=(List.range n).map λ u:Nat=>(u:Int)
def Za9 (g:Nat->Int)(n k:Nat):List Int:=(List.range n).map λ u=>if u<k then g u else 0
theorem Zdw (g:Nat->Int)(n k:Nat):(Za9 g n k).length=n:=by simp[Za9]
theorem Zfj {g:Nat->Int}{n k u:Nat}(h:u<n):(Za9 g n k)[u]? =some (if u<k then g u else 0):=by simp[Za9,h]
theorem ZhR (g:Nat->Int)(n:Nat):(Za9 g n 0).map D.int=List.replicate n (D.int 0):=by
 rw[kX];refine⟨by simp[Za9],λ b hb=>?_⟩;simp only[Za9,gR,uP]at hb;obtain⟨u,_,rfl⟩:=hb;simp
theorem ZhQ {g:Nat->Int}{n k:Nat}(h:k<n):(Za9 g n k).set k (g k)=Za9 g n (k+1):=by
 refine yS λ u=>?_
 by_cases hu:u<n
 ·rw[Zfj hu,yX,Zfj hu,Zdw];by_cases c:k=u
  ·subst c;rw[if_pos rfl,if_pos h,if_pos (by omega)]
  ·rw[if_neg c];by_cases c2:u<k
   ·rw[if_pos c2,if_pos (by omega)]
   ·rw[if_neg c2,if_neg (by omega)]
 ·rw[uL (by rw[yJ,Zdw];omega),uL (by rw[Zdw];omega)]
theorem ZhP (g:Nat->Int)(n:Nat):Za9 g n n=(List.range n).map g:=by
 rw[Za9];refine yN λ u hu=>?_
 rw[if_pos (yA.1 hu)]
theorem Zml (n:Nat)(l:List Bd)(f:List Int)(hn:n<=2048):Zah Tryz.prog 161 [.d (pD n l f)] [(2000, .dead)] (.ref 2000 1 0 n n) [(2000, .row 1 ((Zcd n).map D.int))]:=by
 refine kM Tryz.func161 ?_;intro B X w0;refine kw1 (kow (Nat.beq 10) (b:=true)) kc0 kc0 ?_;refine Zae (λ(k:Nat)=>k<=n) (λ k=>[(3, .ref 10 1 0 n n),(12, .int n),(13, .int k)]) (λ k=>[(10, .row 1 ((Za9 (λ u=>(u:Int)) n k).map D.int))]) (λ k=>n-k) 0 ?_ ?_ ?_
 ·exact uG _
 ·exact kN (kc1 @ZhR) []
 ·intro k hk;have hlen:=Zdw (λ u=>(u:Int)) n k;rcases uC k n with hlt|hge
  ·have hg:(Za9 (λ u=>(u:Int)) n k)[k]? =_:=Zfj hlt;have hst:=ZhQ (g:=λ u=>(u:Int)) hlt;refine kw1 kO (kc2 hg hlen) kc0 ?_;refine⟨k+1,?_,kN (kc2 @hst.symm @yR.{0,0}) [],?_⟩
   ·omega
   ·omega
  ·refine kw1 kP kc0 kc0 ?_;have:k=n:=by omega
   subst this;refine kR kc0 [(2000,10)] [(2, .ref 2000 1 0 _ _)] [(2000, .row 1 _)] ?_;refine Za0 ?_;exact⟨rfl,uO.2 ⟨Zoh (by rw[ZhP];rfl),yC _⟩⟩
def Zd6 (l:List Bd)(v:Int)(j:Nat):Int:=match l[j]? with
 |some b=>(if b.2.1=v then b.2.2.2 else 0)-(if b.1=v then b.2.2.2 else 0)
 |none=>0
def ZbR (l:List Bd)(n k:Nat):List Int:=(List.range n).map λ v:Nat=>Zar (Zd6 l v) k
theorem ZiP (l:List Bd)(n k:Nat):(ZbR l n k).length=n:=by simp[ZbR]
theorem Zzn (l:List Bd)(n:Nat):(ZbR l n 0).map D.int=List.replicate n (D.int 0):=by
 rw[kX];refine⟨by simp[ZbR],λ b hb=>?_⟩;simp only[ZbR,gR,uP]at hb;obtain⟨u,_,rfl⟩:=hb;rfl
theorem ZjU {l:List Bd}{n k u:Nat}(hu:u<n):(ZbR l n k)[u]? =some (Zar (Zd6 l u) k):=by simp[ZbR,hu]
theorem Zzp {l:List Bd}{n k i j:Nat}{b:Bd}(hb:l[k]? =some b)(hi:b.1=i)(hj:b.2.1=j)(hij:i≠j)(hin:i<n)(hjn:j<n):
  ZbR l n (k+1)=((ZbR l n k).set j (Zar (Zd6 l j) k+b.2.2.2)).set i (Zar (Zd6 l i) k-b.2.2.2):=by
 refine yS λ u=>?_
 by_cases hu:u<n
 ·rw[ZjU hu,Zcp,yX,yX,yJ,ZiP,ZjU hu];have e:Zd6 l u k=(if b.2.1=(u:Int)then b.2.2.2 else 0)-(if b.1=(u:Int)then b.2.2.2 else 0):=by simp[Zd6,hb]
  rw[e,hi,hj];by_cases c1:i=u
  ·subst c1;rw[if_neg (by omega),if_pos rfl,if_pos rfl,if_pos hu];congr 1;omega
  ·by_cases c2:j=u
   ·subst c2;rw[if_pos rfl,if_neg (by omega),if_neg c1,if_pos rfl,if_pos hu];congr 1;omega
   ·rw[if_neg (by omega),if_neg (by omega),if_neg c1,if_neg c2];congr 1;omega
 ·rw[uL (by rw[ZiP];omega),uL (by rw[yJ,yJ,ZiP];omega)]
theorem ZnE {l:List Bd}{v:Int}{m:Nat}(hm:m<=l.length)(h4:∀(k:Nat) b,l[k]? =some b->0<=b.2.2.2/\b.2.2.2<=8000):
  -(8000*(m:Int))<=Zar (Zd6 l v) m/\Zar (Zd6 l v) m<=8000*(m:Int):=by
 refine sumI_le (m:=m) (λ k hk=>?_) m (uI _);obtain⟨b,hb⟩:=Zac (show k<l.length by omega);have h5:=h4 k b hb;simp only[Zd6,hb];split<;>split<;>omega
theorem Zzq (n:Nat)(l:List Bd)(f:List Int)(hg:nOk (n,l)=true):Zah Tryz.prog 212 [.d (pD n l f)] [(2000, .dead)] (.ref 2000 1 0 n n) [(2000, .row 1 ((ZbR l n l.length).map D.int))]:=by
 obtain⟨h1,h2,h3,h4⟩:=Zft hg;dsimp only at h1 h2 h3 h4;refine kM Tryz.func212 ?_;intro B X w0;refine kw1 (kow (Nat.beq 11) (b:=true)) kc0 kc0 ?_;refine Zae (λ(k:Nat)=>k<=l.length) (λ k=>[(3, .ref 11 1 0 n n),(16, .d (Zbx l)),(17, .int l.length),(18, .int k)]) (λ k=>[(11, .row 1 ((ZbR l n k).map D.int))]) (λ k=>l.length-k) 0 ?_ ?_ ?_
 ·exact uG _
 ·exact kN (kc1 @Zzn) []
 ·intro k hk;have hbl:=ZiP l n k;rcases uC k l.length with hlt|hge
  ·obtain⟨b,hb⟩:=Zac hlt;have hbi:=h4 k b hb;obtain⟨i,hi⟩:∃i:Nat,b.1=i:=⟨b.1.toNat,by omega⟩;obtain⟨j,hj⟩:∃j:Nat,b.2.1=j:=⟨b.2.1.toNat,by omega⟩;have gi:(ZbR l n k)[i]? =_:=ZjU (by omega);have gj:(ZbR l n k)[j]? =_:=ZjU (by omega);have bi:=ZnE (v:=i) (show k<=l.length by omega) (λ k b hb=>by have:=h4 k b hb;omega);have bj:=ZnE (v:=j) (show k<=l.length by omega) (λ k b hb=>by have:=h4 k b hb;omega);have hst:=Zzp (n:=n) hb hi hj (by omega) (by omega) (by omega);have hij:j≠i:=by omega
   have gs:((List.map D.int (ZbR l n k)).set j (D.sc (.int .i64 (Zar (Zd6 l j) k+b.2.2.2))))[i]? =some (D.int (Zar (Zd6 l i) k)):=by
    rw[jH hij,uJ,gi];rfl
   refine kw1 kO (kc8 hb hi hj gi gj gs hbl @yJ.{0}) kc0 ?_;refine⟨k+1,?_,kN (kc2 hst @yR.{0,0}) [],?_⟩
   ·omega
   ·omega
  ·refine kw1 kP kc0 kc0 ?_;have:k=l.length:=by omega
   subst this;refine kR kc0 [(2000,11)] [(2, .ref 2000 1 0 _ _)] [(2000, .row 1 _)] ?_;refine Za0 ?_;exact⟨rfl,uO.2 ⟨rfl,yC _⟩⟩
end Go.Proofs.YtjjbhjnpeenbkaaGreatDoor.Sx
namespace Go.Proofs.YtjjbhjnpeenbkaaGreatDoor.Sx
open Go Go.PS Go.Proofs
set_option maxRecDepth 100000
attribute [local irreducible] Zad wpG Zaa
def Zev (b:Bd):Bd:=(b.2.1,b.1,b.2.2.1,b.2.2.2)
def mirF (g:Net):Net:=(g.1,g.2.map Zev)
def upA (b:Bd)(s:List Int×Bool):List Int×Bool:=
 if at0 s.1 b.2.1<at0 s.1 b.1+b.2.2.1 then(s.1.set b.2.1.toNat (at0 s.1 b.1+b.2.2.1),true)else s
def upB (b:Bd)(t:Bool)(s:List Int×Bool):List Int×Bool:=
 if t&&decide (at0 s.1 b.1<at0 s.1 b.2.1-b.2.2.1)then(s.1.set b.1.toNat (at0 s.1 b.2.1-b.2.2.1),true)else s
def ZfB (f:List Int)(k:Nat):Bool:=match f[k]? with
 |some x=>decide (0<x)
 |none=>false
def Zdl (l:List Bd)(f:List Int)(k:Nat)(s:List Int×Bool):List Int×Bool:=match l[k]? with
 |some b=>upB b (ZfB f k) (upA b s)
 |none=>s
def Zbc (l:List Bd)(f r:List Int):Nat->List Int×Bool
 |0=>(r,false)
 |k+1=>Zdl l f k (Zbc l f r k)
def Zba (l:List Bd)(f:List Int)(n:Nat):Nat->List Int
 |0=>List.replicate n 0
 |k+1=>(Zbc l f (Zba l f n k) l.length).1
def ZcU (l:List Bd)(f:List Int)(n:Nat):Nat->Option Nat
 |0=>none
 |k+1=>match ZcU l f n k with|some i=>some i|none=>if(Zbc l f (Zba l f n k) l.length).2 then none else some k
def Zc7 (g:Net)(f:List Int):List Int×Bool:=match ZcU g.2 f g.1.toNat (g.1.toNat+2)with
 |some k=>(Zba g.2 f g.1.toNat (k+1),true)
 |none=>([],false)
theorem ZD3 (b:Bd)(s:List Int×Bool):(upA b s).1.length=s.1.length:=by
 unfold upA;split<;>simp
theorem ZD5 (b:Bd)(t:Bool)(s:List Int×Bool):(upB b t s).1.length=s.1.length:=by
 unfold upB;split<;>simp
theorem ZDl (l:List Bd)(f:List Int)(k:Nat)(s:List Int×Bool):(Zdl l f k s).1.length=s.1.length:=by
 unfold Zdl;split
 ·rw[ZD5,ZD3]
 ·rfl
theorem ZlH (l:List Bd)(f r:List Int):∀k,(Zbc l f r k).1.length=r.length
 |0=>rfl
 |k+1=>by rw[Zbc,ZDl,ZlH l f r k]
theorem Zf0 (l:List Bd)(f:List Int)(n:Nat):∀k,(Zba l f n k).length=n
 |0=>by simp[Zba]
 |k+1=>by rw[Zba,ZlH,Zf0 l f n k]
def Zci (r:List Int)(m:Int):Prop:=∀v:Int,-m<=at0 r v/\at0 r v<=m
theorem Zel (r:List Int)(i:Nat)(x v:Int)(hv:0<=v):at0 (r.set i x) v=if v=i/\i<r.length then x else at0 r v:=by
 simp only[at0,yX];by_cases h:i=v.toNat
 ·subst h;by_cases h2:v.toNat<r.length
  ·rw[if_pos rfl,if_pos h2,if_pos (by omega)];rfl
  ·rw[if_pos rfl,if_neg h2,if_neg (by omega),uL (by omega)]
 ·rw[if_neg h,if_neg (by omega)]
theorem Zvw (r:List Int)(v:Int)(hv:v<0):at0 r v=at0 r 0:=by
 rw[at0,at0,show v.toNat=0 by omega];rfl
theorem ZoY {r:List Int}{m:Int}{i:Nat}{x:Int}(h:Zci r m)(h1:-m<=x)(h2:x<=m):Zci (r.set i x) m:=by
 have key:∀v:Int,0<=v->-m<=at0 (r.set i x) v/\at0 (r.set i x) v<=m:=by
  intro v hv;rw[Zel _ _ _ _ hv];split
  ·exact⟨h1,h2⟩
  ·exact h v
 intro v;rcases(show v<0\/0<=v by omega)with hv|hv
 ·rw[Zvw _ _ hv];exact key 0 (qL _)
 ·exact key v hv
theorem Zgf {r:List Int}{m m':Int}(h:Zci r m)(hm:m<=m'):Zci r m':=λ v=>by have:=h v;omega
def Znx (l:List Bd):Prop:=∀(k:Nat) b,l[k]? =some b->-16777216<=b.2.2.1/\b.2.2.1<=16777216
theorem ZD2 {b:Bd}{s:List Int×Bool}{m:Int}(h:Zci s.1 m)(hb:-16777216<=b.2.2.1/\b.2.2.1<=16777216):Zci (upA b s).1 (m+16777216):=by
 unfold upA;split
 ·have h1:=h b.1;exact ZoY (Zgf h (by omega)) (by omega) (by omega)
 ·exact Zgf h (by omega)
theorem ZD4 {b:Bd}{t:Bool}{s:List Int×Bool}{m:Int}(h:Zci s.1 m)(hb:-16777216<=b.2.2.1/\b.2.2.1<=16777216):Zci (upB b t s).1 (m+16777216):=by
 unfold upB;split
 ·have h1:=h b.2.1;exact ZoY (Zgf h (by omega)) (by omega) (by omega)
 ·exact Zgf h (by omega)
theorem Zog {l:List Bd}{f r:List Int}{m:Int}(hl:Znx l)(h:Zci r m):∀k:Nat,Zci (Zbc l f r k).1 (m+33554432*k)
 |0=>Zgf h (by omega)
 |k+1=>by
  have ih:=Zog (f:=f) hl h k;rw[Zbc,Zdl];cases hb:l[k]? with
  |none=>exact Zgf ih (by omega)
  |some b=>
   have:=hl k b hb;exact Zgf (ZD4 (ZD2 ih this) this) (by omega)
theorem Zri {l:List Bd}{f:List Int}{n:Nat}(hl:Znx l)(hm:l.length<=4096):∀k:Nat,Zci (Zba l f n k) (137438953472*k)
 |0=>by
  intro v;have:at0 (Zba l f n 0) v=0:=by
   simp only[at0,Zba,qT];split<;>rfl
  rw[this];omega
 |k+1=>by
  rw[Zba];exact Zgf (Zog hl (Zri hl hm k) l.length) (by omega)
theorem ZDp {l:List Bd}{f:List Int}{n m k:Nat}(hk:k<m)(h1:ZcU l f n k=none)(h2:(Zbc l f (Zba l f n k) l.length).2=false):ZcU l f n m=some k:=by
 induction m with
 |zero=>omega
 |succ m ih=>
  rcases qB.1 hk with h|rfl
  ·simp[ZcU,ih h]
  ·simp[ZcU,h1,h2]
theorem ZDr {l:List Bd}{f:List Int}{n k:Nat}(h1:ZcU l f n k=none)(h2:(Zbc l f (Zba l f n k) l.length).2=true):ZcU l f n (k+1)=none:=by simp[ZcU,h1,h2]
theorem at0_at {r:List Int}{i:Nat}(h:i<r.length):r[i]? =some (at0 r i):=by
 obtain⟨x,hx⟩:=Zac h;rw[at0,uK,hx];rfl
theorem Zul {b:Bd}{t:Bool}{s:List Int×Bool}{i j:Nat}(hi:b.1=i)(hj:b.2.1=j)(hij:i≠j)(hjl:j<s.1.length)(h:at0 s.1 j<at0 s.1 i+b.2.2.1):
  upB b t (upA b s)=(s.1.set j (at0 s.1 i+b.2.2.1),true):=by
 have e:upA b s=(s.1.set j (at0 s.1 i+b.2.2.1),true):=by rw[upA,hi,hj,if_pos h,uK]
 have e1:=Zel s.1 j (at0 s.1 i+b.2.2.1) i (by omega);rw[if_neg (by omega)]at e1;have e2:=Zel s.1 j (at0 s.1 i+b.2.2.1) j (by omega);rw[if_pos ⟨rfl,hjl⟩]at e2;rw[e,upB,hi,hj];dsimp only;rw[e1,e2,if_neg];simp only[uM,uF];omega
theorem Zum {b:Bd}{t:Bool}{s:List Int×Bool}{i j:Nat}(hi:b.1=i)(hj:b.2.1=j)(h:¬at0 s.1 j<at0 s.1 i+b.2.2.1)(ht:t=true)(h2:at0 s.1 i<at0 s.1 j-b.2.2.1):
  upB b t (upA b s)=(s.1.set i (at0 s.1 j-b.2.2.1),true):=by
 have e:upA b s=s:=by rw[upA,hi,hj,if_neg h]
 rw[e,upB,hi,hj,if_pos (by simp[ht,h2]),uK]
theorem ZoR {b:Bd}{t:Bool}{s:List Int×Bool}{i j:Nat}(hi:b.1=i)(hj:b.2.1=j)(h:¬at0 s.1 j<at0 s.1 i+b.2.2.1)(h2:t=false\/¬at0 s.1 i<at0 s.1 j-b.2.2.1):
  upB b t (upA b s)=s:=by
 have e:upA b s=s:=by rw[upA,hi,hj,if_neg h]
 rw[e,upB,hi,hj,if_neg];rcases h2 with h2|h2<;>simp[h2]
theorem Zjf (g:Net)(f:List Int)(hg:nOk g=true)(hfl:f.length<=1000000):Zaa Tryz.prog 134 [nD g,Zab f] (.tup [Zab (Zc7 g f).1, .bool (Zc7 g f).2]):=by
 obtain⟨h1,h2,h3,h4⟩:=Zft hg;obtain⟨m,l⟩:=g;dsimp only at h1 h2 h3 h4;obtain⟨n,rfl⟩:∃n:Nat,m=n:=⟨m.toNat,by omega⟩;have hlo:Znx l:=λ k b hb=>by have:=h4 k b hb;omega
 refine kE Tryz.func134 ?_;intro hat B X w0;refine kw1 (kow (Nat.beq 13) (b:=true)) kc0 kc0 ?_;refine Zae (λ(k:Nat)=>k<=n+2/\ZcU l f n k=none) (λ k=>[(1, .d (Zab f)),(2, .ptr 2 0 0 0),(6, .ref 13 1 0 n n),(7, .int k)]) (λ k=>[(2, .cells [.int n, .d (Zbx l)]),(13, .row 1 ((Zba l f n k).map D.int))]) (λ k=>n+2-k) 0 ?_ ?_ ?_
 ·exact⟨by omega,rfl⟩
 ·exact kN (kc2 @Zba.eq_1 @jJ.{0,0}) []
 ·rintro k ⟨hk,hstill⟩;have hwi:=Zri (f:=f) (n:=n) hlo h3 k;rcases uC k (n+2)with hlt|hge
  ·refine kw1 kO kc0 kc0 ?_;refine Zae (λ(i:Nat)=>i<=l.length) (λ i=>[(1, .d (Zab f)),(2, .ptr 2 0 0 0),(6, .ref 13 1 0 n n),(7, .int k),(8, .bool (Zbc l f (Zba l f n k) i).2),(9, .int i)]) (λ i=>[(2, .cells [.int n, .d (Zbx l)]),(13, .row 1 ((Zbc l f (Zba l f n k) i).1.map D.int))]) (λ i=>l.length-i) 0 ?_ ?_ ?_
   ·exact uG _
   ·exact kN (kc1 @Zbc.eq_1) []
   ·intro i hi;have hlen:(Zbc l f (Zba l f n k) i).1.length=n:=by rw[ZlH,Zf0]
    have hw:=Zgf (m':=562949953421312) (Zog (f:=f) hlo hwi i) (by omega);rcases uC i l.length with hil|hig
    ·obtain⟨b,hb⟩:=Zac hil;have hbi:=h4 i b hb;have hru:Zbc l f (Zba l f n k) (i+1)=upB b (ZfB f i) (upA b (Zbc l f (Zba l f n k) i)):=by simp only[Zbc,Zdl,hb]
     generalize Zbc l f (Zba l f n k) i=s at hlen hw hru|-;obtain⟨p,hp⟩:∃p:Nat,b.1=p:=⟨b.1.toNat,by omega⟩;obtain⟨q,hq⟩:∃q:Nat,b.2.1=q:=⟨b.2.1.toNat,by omega⟩;have gp:=at0_at (r:=s.1) (i:=p) (by omega);have gq:=at0_at (r:=s.1) (i:=q) (by omega);have wp:=hw p;have wq:=hw q;have hpq:q≠p:=by omega
     have t1:∀x,((List.map D.int s.1).set q x)[p]? =some (D.int (at0 s.1 p)):=λ x=>by
      rw[jH hpq,uJ,gp];rfl
     have t2:∀x,((List.map D.int s.1).set q x)[q]? =some x:=λ x=>gU (by rw[uD];omega)
     rcases jC (at0 s.1 q<at0 s.1 p+b.2.2.1)with c1|c1
     ·rw[Zul hp hq (by omega) (by omega) c1]at hru;rcases uC i f.length with hif|hif
      ·obtain⟨x,hx⟩:=Zac hif;refine kw kO (kc8 hb hx hp hq gp gq t1 (kc3 t2 hlen @yJ.{0})) kc0 ?_
       repeat' first|exact True.intro|refine Bn.mk ?_ ?_|intro hc
       all_goals
        refine⟨i+1,?_,kN (kc2 hru @yR.{0,0}) [],?_⟩
        ·omega
        ·omega
      ·refine kw1 kO (kc8 hb hp hq gp gq t1 t2 (kc2 hlen @yJ.{0})) kc0 ?_
       all_goals
        refine⟨i+1,?_,kN (kc2 hru @yR.{0,0}) [],?_⟩
        ·omega
        ·omega
     ·rcases uC i f.length with hif|hif
      ·obtain⟨x,hx⟩:=Zac hif;have ht:ZfB f i=decide (0<x):=by rw[ZfB,hx]
       rw[ht]at hru;rcases jC (0<x/\at0 s.1 p<at0 s.1 q-b.2.2.1)with c2|c2
       ·rw[Zum hp hq c1 (by simp[c2.1]) c2.2]at hru;refine kw1 kO (kc8 hb hx hp hq gp gq t1 (kc3 t2 hlen @yJ.{0})) kc0 ?_
        all_goals
         refine⟨i+1,?_,kN (kc2 hru @yR.{0,0}) [],?_⟩
         ·omega
         ·omega
       ·rw[ZoR hp hq c1 (by rw[yZ];omega)]at hru;refine kw kO (kc8 hb hx hp hq gp gq t1 (kc3 t2 hlen @yJ.{0})) kc0 ?_
        repeat' first|exact True.intro|refine Bn.mk ?_ ?_|intro hc
        all_goals
         refine⟨i+1,?_,kN (kc2 hru @yR.{0,0}) [],?_⟩
         ·omega
         ·omega
      ·have ht:ZfB f i=false:=by rw[ZfB,uL hif]
       rw[ht,ZoR hp hq c1 (.inl rfl)]at hru;refine kw1 kO (kc8 hb hp hq gp gq t1 t2 (kc2 hlen @yJ.{0})) kc0 ?_
       all_goals
        refine⟨i+1,?_,kN (kc2 hru @yR.{0,0}) [],?_⟩
        ·omega
        ·omega
    ·have:i=l.length:=by omega
     subst this;rcases hch:(Zbc l f (Zba l f n k) l.length).2 with _|_
     ·refine kw1 kO kc0 kc0 ?_;have e:Zc7 (n,l) f=(Zba l f n (k+1),true):=by
       rw[Zc7,uK,ZDp hlt hstill hch]
      rw[e,Zba];exact⟨_,rfl,Zch (o:=13) rfl rfl (by simp[hlen]) (uE (by simp[hlen])),Zai rfl,trivial⟩
     ·refine kw1 kO kc0 kc0 ?_;refine⟨k+1,?_,kN (kc1 @Zba.eq_1) [],?_⟩
      ·exact⟨by omega,ZDr hstill hch⟩
      ·omega
  ·refine kw1 kO kc0 kc0 ?_;have:k=n+2:=by omega
   subst this;have e:Zc7 (n,l) f=([],false):=by rw[Zc7,uK,hstill]
   rw[e];exact⟨_,rfl,ZdB rfl,Zai rfl,trivial⟩
def Zdm (a b:List Int):Nat->Int
 |0=>0
 |k+1=>max (max (Zdm a b k) (at0 a k)) (at0 b k)
def Za8 (a b:List Int)(t:Int)(v:Nat):Int:=(at0 a v+t-at0 b v)/2
def ZbV (h:Nat->Int):Nat->Int
 |0=>0
 |k+1=>if k=0\/h k<ZbV h k then h k else ZbV h k
def midF (a b:List Int):List Int:=
 let t:=Zdm a b a.length
 (List.range a.length).map λ v=>Za8 a b t v-ZbV (Za8 a b t) a.length
def ZhT (a:List Int)(m:Int):Prop:=∀v:Nat,0<=at0 a v/\at0 a v<=m
theorem Zuf {a b:List Int}{m:Int}(ha:ZhT a m)(hb:ZhT b m):∀k,0<=Zdm a b k/\Zdm a b k<=m
 |0=>by have:=ha 0;simp only[Zdm];omega
 |k+1=>by have:=Zuf ha hb k;have:=ha k;have:=hb k;simp only[Zdm];omega
theorem ZDJ {a b:List Int}{j k:Nat}(h:j<=k):Zdm a b j<=Zdm a b k:=by
 induction k with
 |zero=>rw[show j=0 by omega];exact qL _
 |succ k ih=>
  rcases uC j (k+1)with h1|h1
  ·have:=ih (by omega);simp only[Zdm];omega
  ·rw[show j=k+1 by omega];exact qL _
theorem ZDI {a b:List Int}{j k:Nat}(h:j<k):at0 a j<=Zdm a b k/\at0 b j<=Zdm a b k:=by
 have h1:=ZDJ (a:=a) (b:=b) (show j+1<=k by omega);simp only[Zdm]at h1;omega
theorem Zni {a b:List Int}{t m:Int}{v:Nat}(ha:ZhT a m)(hb:ZhT b m)(ht:0<=t/\t<=m):-m<=Za8 a b t v/\Za8 a b t v<=m:=by
 have:=ha v;have:=hb v;rw[Za8];omega
theorem ZrP {h:Nat->Int}{m:Int}(hm:0<=m)(hh:∀v,-m<=h v/\h v<=m):∀k,-m<=ZbV h k/\ZbV h k<=m
 |0=>by simp only[ZbV];omega
 |k+1=>by
  have:=ZrP hm hh k;have:=hh k;simp only[ZbV];split<;>omega
def Zb3 (h:Nat->Int)(k:Nat):List Int:=(List.range k).map h
theorem Zfx (h:Nat->Int)(k:Nat):(Zb3 h k).length=k:=by simp[Zb3]
theorem Zf9 {h:Nat->Int}{k u:Nat}(hu:u<k):(Zb3 h k)[u]? =some (h u):=by simp[Zb3,hu]
def ZeG (h g:Nat->Int)(n k:Nat):List Int:=(List.range n).map λ u=>if u<k then g u else h u
theorem Zl1 (h g:Nat->Int)(n k:Nat):(ZeG h g n k).length=n:=by simp[ZeG]
theorem ZoP {h g:Nat->Int}{n k u:Nat}(hu:u<n):(ZeG h g n k)[u]? =some (if u<k then g u else h u):=by simp[ZeG,hu]
theorem ZDP (h g:Nat->Int)(n:Nat):ZeG h g n 0=Zb3 h n:=by simp[ZeG,Zb3]
theorem ZDN (h g:Nat->Int)(n:Nat):ZeG h g n n=Zb3 g n:=by
 simp only[ZeG,Zb3];refine yN λ u hu=>?_
 rw[if_pos (yA.1 hu)]
theorem ZDO {h g:Nat->Int}{n k:Nat}(hk:k<n):(ZeG h g n k).set k (g k)=ZeG h g n (k+1):=by
 refine yS λ u=>?_
 by_cases hu:u<n
 ·rw[ZoP hu,yX,ZoP hu,Zl1];by_cases c:k=u
  ·subst c;rw[if_pos rfl,if_pos hk,if_pos (by omega)]
  ·rw[if_neg c];by_cases c2:u<k
   ·rw[if_pos c2,if_pos (by omega)]
   ·rw[if_neg c2,if_neg (by omega)]
 ·rw[uL (by rw[yJ,Zl1];omega),uL (by rw[Zl1];omega)]
end Go.Proofs.YtjjbhjnpeenbkaaGreatDoor.Sx
namespace Go.Proofs.YtjjbhjnpeenbkaaGreatDoor.Sx
open Go Go.PS Go.Proofs
set_option maxRecDepth 100000
attribute [local irreducible] Zad wpG Zaa Zah
abbrev Stp :=Int×Int×Int×Bool
abbrev stD (s:Stp):D:= .ag [.int s.1, .int s.2.1, .int s.2.2.1, .bool s.2.2.2]
def Zib (l:List Bd)(f:List Int)(v k:Nat):List Stp:=match l[k]? with
 |some b=>(if b.1=v then[(b.2.1,b.2.2.1,(k:Int),false)]else[])++(if 0<at0 f k/\b.2.1=v then[(b.1,-b.2.2.1,(k:Int),true)]else[])
 |none=>[]
def Ze8 (l:List Bd)(f:List Int)(v:Nat):Nat->List Stp:=Za5 (Zib l f v)
def ZdC (l:List Bd)(f:List Int)(k v:Nat):List D:=(Ze8 l f v k).map stD
abbrev Zi2 (n:Nat)(l:List Bd)(f:List Int):List D:=(List.range n).map λ v=> .sl (ZdC l f l.length v)
theorem ZDm {l:List Bd}{f:List Int}{k:Nat}{b:Bd}{p q:Nat}(hb:l[k]? =some b)(hp:b.1=p)(hq:b.2.1=q)(hpq:p≠q)(v:Nat):
  ZdC l f (k+1) v=if v=p then ZdC l f k v++[stD (q,b.2.2.1,k,false)]else if v=q/\0<at0 f k then ZdC l f k v++[stD (p,-b.2.2.1,k,true)]else ZdC l f k v:=by
 simp only[ZdC,Ze8,Za5,Zib,hb,hp,hq,uR];by_cases h1:v=p
 ·subst h1;rw[if_pos rfl,if_neg (by omega),if_pos rfl];simp
 ·rw[if_neg (by omega),if_neg h1];by_cases h2:v=q/\0<at0 f k
  ·rw[if_pos ⟨h2.2,by omega⟩,if_pos h2];simp
  ·rw[if_neg (by omega),if_neg h2];simp
theorem ZlW (l:List Bd)(f:List Int)(v:Nat):∀k,(ZdC l f k v).length<=2*k
 |0=>by simp[ZdC,Ze8,Za5]
 |k+1=>by
  have:=ZlW l f v k;simp only[ZdC,Ze8,Za5,uR,uH,uD]at this|-;have:(Zib l f v k).length<=2:=by
   rw[Zib];split
   ·split<;>split<;>simp
   ·simp
  omega
theorem ZDo (n:Nat)(l:List Bd)(f:List Int)(hn:n<=2048)(hl:l.length<=4096)(hfl:f.length=l.length)
  (hb:∀(k:Nat) b,l[k]? =some b->0<=b.1/\b.1<n/\0<=b.2.1/\b.2.1<n/\b.1≠b.2.1/\-16777216<=b.2.2.1/\b.2.2.1<=16777216):
  Zaa Tryz.prog 211 [pD n l f] (.sl (Zi2 n l f)):=by
 refine kE Tryz.func211 ?_;intro hat B X w0;refine kw1 (kow (λ s=>(Nat.beq 11 s).or ((Nat.beq 37 s).or (Nat.beq 63 s))) (b:=true)) kc0 kc0 ?_;refine Zaq _ (Zju 1 11 4 n rfl (λ i hi=>by simp(disch:=omega) only[go_sem,simprocAttr,ZjZ,Zek]) (by decide) (by decide)) ?_;refine Ze2 (λ(k:Nat)=>k<=l.length) (λ k=>[(0, .d (pD n l f)),(3, .ref 11 1 0 n n),(16, .d (Zbx l)),(17, .int l.length),(18, .int k)]) (λ k=>[⟨1,11,4,n,ZdC l f k⟩]) (λ k=>[]) (λ k=>l.length-k) 0 ?_ ?_ ?_
 ·exact uG _
 ·refine kF kc0 [] [] ?_
  repeat' first|exact fmn|refine fmc ⟨?_,?_⟩
  all_goals refine⟨_,(by first|rfl|(simp(disch:=omega) only[go_sem,simprocAttr,ZdC,Ze8,Za5];done)|(simp(disch:=omega) only[go_sem,simprocAttr,ZdC,Ze8,Za5];rfl)),λ i hi=>?_⟩
  all_goals dsimp only at hi|-
  all_goals try (exfalso;omega)
  all_goals try (simp(disch:=omega) only[go_sem,simprocAttr,ZdC,Ze8,Za5,Zd1,Zd4];done)
 ·intro k hk;rcases uC k l.length with hlt|hge
  ·obtain⟨b,hbk⟩:=Zac hlt;have hbi:=hb k b hbk;obtain⟨p,hp⟩:∃p:Nat,b.1=p:=⟨b.1.toNat,by omega⟩;obtain⟨q,hq⟩:∃q:Nat,b.2.1=q:=⟨b.2.1.toNat,by omega⟩;have hpq:p≠q:=by omega
   have hqp:q≠p:=by omega
   have hpn:p<n:=by omega
   have hqn:q<n:=by omega
   have gf:=at0_at (r:=f) (i:=k) (by omega);have hsu:=ZDm (f:=f) hbk hp hq hpq;have e1:=ZlW l f p k;have e2:=ZlW l f q k;refine Zaq _ (ZfT _ _ [11] 11 p 900 1 4 n (by first|rfl|(simp(disch:=omega) only[go_sem,simprocAttr];done)|(simp(disch:=omega) only[go_sem,simprocAttr];rfl)) (by first|(simp(disch:=omega) only[go_sem,simprocAttr];done)|(simp(disch:=omega) only[go_sem,simprocAttr];rfl)) (by first|(simp(disch:=omega) only[go_sem,simprocAttr];done)|(simp(disch:=omega) only[go_sem,simprocAttr];rfl)) (λ i hi hne=>by simp(disch:=omega) only[go_sem,simprocAttr,hne];(repeat' split)<;>exact .ref _ _ _ _ _ ⟨by simp(disch:=omega) only[go_sem,simprocAttr,hne],by simp(disch:=omega) only[go_sem,simprocAttr,hne]⟩) (by(repeat' first|refine ZfI ?_|exact ZfJ (ids:=[11]) rfl rfl (uY rfl)|refine ZfH ?_|refine ZfK ?_|refine ZfF ?_|refine ZfL ?_|refine ZfM ?_|refine ZfG (by dsimp only;omega) (by dsimp only;omega) (by omega) (by omega) (uY rfl) ?_);done) rfl rfl rfl) ?_;refine Zaq _ (ZfT _ _ [11,900] 11 q 901 1 4 n (by first|rfl|(simp(disch:=omega) only[go_sem,simprocAttr,hpq,hqp];done)|(simp(disch:=omega) only[go_sem,simprocAttr,hpq,hqp];rfl)) (by first|(simp(disch:=omega) only[go_sem,simprocAttr,hpq,hqp];done)|(simp(disch:=omega) only[go_sem,simprocAttr,hpq,hqp];rfl)) (by first|(simp(disch:=omega) only[go_sem,simprocAttr,hpq,hqp];done)|(simp(disch:=omega) only[go_sem,simprocAttr,hpq,hqp];rfl)) (λ i hi hne=>by simp(disch:=omega) only[go_sem,simprocAttr,hne,hpq,hqp];(repeat' split)<;>exact .ref _ _ _ _ _ ⟨by simp(disch:=omega) only[go_sem,simprocAttr,hne,hpq,hqp],by simp(disch:=omega) only[go_sem,simprocAttr,hne,hpq,hqp]⟩) (by(repeat' first|refine ZfI ?_|exact ZfJ (ids:=[11,900]) rfl rfl (uY rfl)|refine ZfH ?_|refine ZfK ?_|refine ZfF ?_|refine ZfL ?_|refine ZfM ?_|refine ZfG (by dsimp only;omega) (by dsimp only;omega) (by omega) (by omega) (uY rfl) ?_);done) rfl rfl rfl) ?_;refine kw (kow (λ s=>(Nat.beq 11 s).or ((Nat.beq 37 s).or (Nat.beq 63 s))) (b:=true)) (kc6 hbk hp hq gf hpq hqp) kc0 ?_
   repeat' first|exact True.intro|refine Bn.mk ?_ ?_|intro hc
   ·refine⟨k+1,?_,kF kc0 [(fid 1 p,38),(fid 1 q,64)] [] ?_,?_⟩
    ·omega
    ·repeat' first|exact fmn|refine fmc ⟨?_,?_⟩
     all_goals refine⟨_,(by first|rfl|(simp(disch:=omega) only[go_sem,simprocAttr,hsu,hpq,hqp,yH,uH,uX,uW,hc];done)|(simp(disch:=omega) only[go_sem,simprocAttr,hsu,hpq,hqp,yH,uH,uX,uW,hc];rfl)),λ i hi=>?_⟩
     all_goals dsimp only at hi|-
     all_goals rcases jC (i=p)with rfl|hi0
     all_goals rcases jC (i=q)with rfl|hi1
     all_goals try (exfalso;omega)
     all_goals try (simp(disch:=omega) only[go_sem,simprocAttr,hsu,hpq,hqp,yH,uH,uX,uW,hc,Zd1,Zd4];done)
     all_goals try (simp(disch:=omega) only[go_sem,simprocAttr,hsu,hpq,hqp,yH,uH,uX,uW,hc,hi0,Zd1,Zd4];done)
     all_goals try (simp(disch:=omega) only[go_sem,simprocAttr,hsu,hpq,hqp,yH,uH,uX,uW,hc,hi1,Zd1,Zd4];done)
     all_goals try (simp(disch:=omega) only[go_sem,simprocAttr,hsu,hpq,hqp,yH,uH,uX,uW,hc,hi0,hi1,Zd1,Zd4];done)
    ·omega
   ·refine⟨k+1,?_,eF [(fid 1 p,38),(fid 1 q,901)] [] _ _ _ (by refine⟨?_,?_⟩<;>(repeat' first|exact fmn|refine fmc ⟨(by first|rfl|(simp(disch:=omega) only[go_sem,simprocAttr,inL];first|done|omega|(congr 1;done))),?_⟩);done) ?_,?_⟩
    ·omega
    ·exact kT2 (kc8 hsu hpq hqp @yH.{0} @uH.{0} @uX.{0} @uW.{0} hc) p q
    ·omega
  ·refine kw1 kP kc0 kc0 ?_;have:k=l.length:=by omega
   subst this;refine Zaq _ (Zw3.1 (kG kc0 [] [] [(2, .ref 11 1 0 n n)] [⟨1,11,4,n,ZdC l f l.length⟩] [] ?_)) ?_
   ·exact kT0 kc0
   ·refine Zaq _ (Zjv _ _ _ _ ⟨ZbS rfl,ZbS rfl,(by(repeat' first|exact fmn|refine fmc ⟨⟨uY rfl,uY rfl,by dsimp only;omega⟩,?_⟩);done)⟩ rfl [11] rfl rfl rfl rfl) ?_;refine kw1 kO kc0 kc0 ?_;exact Zch (o:=11) rfl rfl (by simp) (uE (by simp))
end Go.Proofs.YtjjbhjnpeenbkaaGreatDoor.Sx
