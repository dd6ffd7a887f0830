/- Levels: the plain laws of validity. -/
import Derived.Test.YtjjbhjnpeenbkaaGreatDoorD
set_option linter.unusedSimpArgs false
set_option linter.unusedVariables false
set_option maxHeartbeats 16000000
namespace Go.Proofs.YtjjbhjnpeenbkaaGreatDoor
open Go Go.PS Go.Proofs
theorem Zg1 :∀{l m:List Int},l.Nodup->(∀x,x∈l->x∈m)->l.length<=m.length
 |[],m,_,_=>uI _
 |x::l,m,hn,hs=>by
  have hx:x∈m:=hs x (by simp);have h1:=zW hx;have h2:0<m.length:=Bj hx;have hn2:=yZ.1 hn;have:=Zg1 (l:=l) (m:=m.erase x) hn2.2 (λ y hy=>by
   have hne:y≠x:=λ e=>hn2.1 (e▸hy)
   exact(Bu hne).2 (hs y (uO _ hy)))
  simp only[uX];omega
def below (c:Nat):List Int:=(List.range c).map λ n:Nat=>(n:Int)
theorem Zpl (c:Nat):(below c).length=c:=by simp[below]
theorem Zkd {c:Nat}{v:Int}:v∈below c↔0<=v/\v<c:=by
 simp only[below,uN,yA];constructor
 ·rintro⟨n,h,rfl⟩;omega
 ·intro h;exact⟨v.toNat,by omega,by omega⟩
theorem Zwe (c:Nat):(below c).Nodup:=by
 refine List.Pairwise.map _ ?_ (Aa (n:=c));intro a b h;omega
theorem Zv1 {c:Nat}{l:List Int}(hn:l.Nodup)(hb:∀v,v∈l->0<=v/\v<c)(hl:l.length=c)(v:Int)(h0:0<=v)(h1:v<c):v∈l:=by
 by_cases h:v∈l
 ·exact h
 ·have:=Zg1 (l:=v::l) (m:=below c) (yZ.2 ⟨h,hn⟩) (λ x hx=>by
   rcases yK.1 hx with rfl|hx
   ·exact Zkd.2 ⟨h0,h1⟩
   ·exact Zkd.2 (hb x hx))
  rw[Zpl,uX]at this;omega
theorem Zh2 {A:List Int}{k:Nat}{v:Int}:v∈ZaV A k↔0<=v/\A[v.toNat]? =some (k:Int):=by
 simp only[ZaV,uN,Ah,yA,uE];constructor
 ·rintro⟨n,⟨h1,h2⟩,rfl⟩;exact⟨by omega,by rw[uL];exact h2⟩
 ·rintro⟨h1,h2⟩;exact⟨v.toNat,⟨(uB.1 h2).1,h2⟩,by omega⟩
theorem ZuN (A:List Int)(k:Nat):(ZaV A k).Pairwise (·<·):=by
 refine List.Pairwise.map (R:=(·<·)) _ ?_ ((zF (n:=A.length)).filter _);intro a b h;omega
theorem Zr4 {A:List Int}{M k:Nat}(h:k<M):(ZbE A M)[k]? =some (ZaV A k):=by simp[ZbE,h]
section layers
variable {A:List Int}{M:Nat}
theorem Zmd (hA:∀n:Nat,n<A.length->0<=at0 A n/\at0 A n<M){v:Int}:v∈(ZbE A M).flatten↔0<=v/\v<A.length:=by
 simp only[ZbE,Ac,uN,yA];constructor
 ·rintro⟨y,⟨k,hk,rfl⟩,hv⟩;obtain⟨h1,h2⟩:=Zh2.1 hv;have:=(uB.1 h2).1;omega
 ·rintro⟨h1,h2⟩;have h3:=hA v.toNat (by omega);refine⟨_,⟨(at0 A v.toNat).toNat,by omega,rfl⟩,Zh2.2 ⟨h1,?_⟩⟩;rw[ZaK (by omega)]
  congr 1;omega
theorem Zpk :(ZbE A M).flatten.Nodup:=by
 refine jD.2 ⟨λ y hy=>?_,?_⟩
 ·obtain⟨k,_,rfl⟩:=uN.1 hy;exact(ZuN A k).imp (λ h=>by omega)
 ·refine List.Pairwise.map _ ?_ (zF (n:=M));intro a b h x hx y hy e;subst e;have h1:=(Zh2.1 hx).2;rw[(Zh2.1 hy).2,yC]at h1;omega
theorem ZCA (hA:∀n:Nat,n<A.length->0<=at0 A n/\at0 A n<M):tot (ZbE A M)=A.length:=by
 rw[<-Zlj];have h1:=Zg1 (l:=(ZbE A M).flatten) (m:=below A.length) Zpk (λ x hx=>Zkd.2 ((Zmd hA).1 hx));have h2:=Zg1 (l:=below A.length) (m:=(ZbE A M).flatten) (Zwe _) (λ x hx=>(Zmd hA).2 (Zkd.1 hx));rw[Zpl]at h1 h2;omega
theorem ZvR (hA:∀n:Nat,n<A.length->0<=at0 A n/\at0 A n<M){n:Nat}(h:n<A.length):ZaN (ZbE A M) n=at0 A n:=by
 have h3:=hA n h;have hk:(ZbE A M)[(at0 A n).toNat]? =some (ZaV A (at0 A n).toNat):=Zr4 (by omega);have hm:((n:Nat):Int)∈ZaV A (at0 A n).toNat:=Zh2.2 ⟨by omega,by rw[uL,ZaK h];congr 1;omega⟩;rw[ZaN,ZeO hk (gM.2 ⟨_,hm,by simp⟩)]
 ·show(((at0 A n).toNat:Nat):Int)=_;omega
 ·intro j y hj hy;rw[Zr4 (by omega)]at hy;cases hy;rw[yR];intro x hx hxn;have:x=n:=by simpa using hxn
  subst this;have h4:=(Zh2.1 hx).2;rw[uL,ZaK h,yC]at h4;omega
theorem Zzr (hA:∀n:Nat,n<A.length->0<=at0 A n/\at0 A n<M):ZcE A.length (ZbE A M)=true:=by
 rw[ZfA];exact⟨λ v hv=>(Zmd hA).1 hv,Zpk⟩
theorem ZAJ (hA:∀n:Nat,n<A.length->0<=at0 A n/\at0 A n<M):Zcc A.length (ZbE A M)=A:=by
 refine qI λ u=>?_
 by_cases hu:u<A.length
 ·rw[ZjG hu,ZvR hA hu,ZaK hu]
 ·rw[uP (by rw[Zeq];omega),uP (by omega)]
end layers
theorem Zkj (ls:List (List Int)):(ls.map ZaH).flatten.Perm ls.flatten:=by
 induction ls with
 |nil=>exact .refl _
 |cons y ls ih=>simp only[uV,kQ];exact(ZiA y).append ih
theorem ZuH (ls:List (List Int)):tot (ls.map ZaH)=tot ls:=by
 rw[<-Zlj,<-Zlj];exact(Zkj ls).length_eq
theorem Zn0 (ls:List (List Int))(v:Int):ZaN (ls.map ZaH) v=ZaN ls v:=by
 rw[ZaN,ZaN,List.findIdx?_map]
 congr 2
 funext y
 show(ZaH y).any _=y.any _;rw[gO,gM,gM];constructor
 ·rintro⟨x,h1,h2⟩;exact⟨x,(ZiA y).mem_iff.1 h1,h2⟩
 ·rintro⟨x,h1,h2⟩;exact⟨x,(ZiA y).mem_iff.2 h1,h2⟩
theorem ZyE (c:Nat)(ls:List (List Int)):ZcE c (ls.map ZaH)=ZcE c ls:=by
 rw[gO,ZfA,ZfA,(Zkj ls).nodup_iff];constructor
 ·rintro⟨h1,h2⟩;exact⟨λ v hv=>h1 v ((Zkj ls).mem_iff.2 hv),h2⟩
 ·rintro⟨h1,h2⟩;exact⟨λ v hv=>h1 v ((Zkj ls).mem_iff.1 hv),h2⟩
theorem ZAI (c:Nat)(ls:List (List Int)):Zcc c (ls.map ZaH)=Zcc c ls:=by simp only[Zcc,Zn0]
theorem Zuk (ls:List (List Int)):Zcm (ls.map ZaH)=Zcm ls:=by
 rw[Zcm,Zcm,uD,ZuH,ZyE,ZAI]
def Zgd (g:Gr)(r:List Int):Nat:=if g.1=0 then 0 else(Zcz r (r.length-1)+1).toNat
structure Built (g:Gr)(r:List Int):Prop where
 eq:ZaG g r=(ZeH g r,0)
 gok:gOk g=true
 len:(r.length:Int)=g.1
 rk:∀v:Nat,0<=at0 r v/\at0 r v<=255
 loop:∀a,a∈g.2->a.1≠a.2
 gap:∀(k:Nat) a,g.2[k]? =some a->0<=at0 r a.2-at0 r a.1-1
 big:g.1+ZaW r g.2 g.2.length<=512
theorem built {g:Gr}{r:List Int}(h:(ZaG g r).2=0):Built g r:=by
 rw[ZaG]at h;split at h
 ·cases h
 ·rename_i h1;have h1:ZdN g r=true:=by simpa using h1
  obtain⟨g1,g2,g3,g4⟩:=Zlh h1;split at h
  ·cases h
  ·rename_i h2;split at h
   ·cases h
   ·rename_i h3;split at h
    ·cases h
    ·rename_i h4;refine⟨?_,g1,g2,g4,λ a ha=>?_,λ k a ha=>?_,by omega⟩
     ·rw[ZaG,h1,if_neg (by decide),if_neg h2,if_neg h3,if_neg h4]
     ·have:=yR.1 (Bi.2 h2) a ha;simpa[ZdA]using this
     ·have:=yR.1 (Bi.2 h3) a (uA ha);rw[ZcB,uE]at this;omega
theorem ZpG (g:Gr)(r:List Int):(ZeH g r).2.1=ZbE (Zaz r g.2 g.2.length) (Zgd g r):=by
 rw[ZeH,Zgd];split
 ·rfl
 ·rfl
theorem Zun {l:List Int}{P:Int->Prop}(h:∀x,x∈l->P x)(n:Nat)(hn:n<l.length):P (at0 l n):=h _ (uA (ZaK hn))
namespace Built
variable {g:Gr}{r:List Int}
theorem ends (b:Built g r){k:Nat}{a:Arc}(h:g.2[k]? =some a):0<=a.1/\a.1<g.1/\0<=a.2/\a.2<g.1:=(Zid b.gok).2.2.2 k a h
theorem high (b:Built g r)(hp:0<r.length):(Zgd g r:Int)=Zcz r (r.length-1)+1:=by
 have h1:=Ziu r (r.length-1) 0 (by omega);have h2:=b.rk 0;have h3:=b.len;rw[Zgd,if_neg (by omega)];omega
theorem high_le (b:Built g r):Zgd g r<=256:=by
 have h2:=Zlw (λ j=>(b.rk j).2) (r.length-1);rw[Zgd];split<;>omega
theorem rk_lt (b:Built g r){n:Nat}(h:n<r.length):at0 r n<Zgd g r:=by
 have:=Ziu r (r.length-1) n (by omega);rw[b.high (by omega)];omega
theorem vals (b:Built g r):∀n:Nat,n<(Zaz r g.2 g.2.length).length->0<=at0 (Zaz r g.2 g.2.length) n/\at0 (Zaz r g.2 g.2.length) n<Zgd g r:=by
 refine λ n hn=>Zun (P:=λ x=>0<=x/\x<Zgd g r) ?_ n hn
 intro x hx;rw[Zaz,yF,yH]at hx;rcases hx with hx|hx
 ·obtain⟨k,hk⟩:=yV hx;have hkl:=(uB.1 hk).1;rw[ZaK hkl]at hk;cases hk;exact⟨(b.rk k).1,b.rk_lt hkl⟩
 ·obtain⟨a,ha,hx⟩:=kX.1 hx;obtain⟨k,hk⟩:=yV ha;have he:=b.ends hk;have hg:=b.gap k a hk;have hl:=b.len;have h1:=b.rk a.1.toNat;have h2:=b.rk_lt (n:=a.2.toNat) (by omega);rw[show((a.1.toNat:Nat):Int)=a.1 by omega]at h1;rw[show((a.2.toNat:Nat):Int)=a.2 by omega]at h2;simp only[Zal,uN,yA]at hx;obtain⟨j,hj,rfl⟩:=hx;rw[ZaE]at hj;omega
theorem all_len (b:Built g r):(Zaz r g.2 g.2.length).length<=512:=by
 have h1:=Zk5 b.gap g.2.length (uH _);have h2:=b.len;have h3:=b.big;omega
theorem all_ge (b:Built g r):r.length<=(Zaz r g.2 g.2.length).length:=by simp[Zaz]
theorem all_take (b:Built g r):(Zaz r g.2 g.2.length).take r.length=r:=by simp[Zaz]
theorem ranks (b:Built g r):Zcm (ZeH g r).2.1=some (Zaz r g.2 g.2.length):=by
 have hv:=b.vals;have hl:=b.all_len;rw[ZpG,Zcm,Zl0,ZCA hv,if_neg (by have:=b.high_le;omega),Zzr hv,if_pos rfl,ZAJ hv]
end Built
theorem ZiO {a:Lv}(h:Zaq a=true):ZeR a=true/\a.2.2.2.any ZdF=false/\Zf1 a=true/\(ZaG (ZaS a) (ZaY a)).2=0/\ZcH a=(ZaG (ZaS a) (ZaY a)).1:=by
 simp only[Zaq,uK,yD,uE,Zli]at h;obtain⟨⟨⟨⟨h1,h2⟩,h3⟩,h4⟩,h5⟩:=h;exact⟨h1,h2,h3,h4,h5⟩
theorem Zhq {a:Lv}(h:Zaq a=true):Built (ZaS a) (ZaY a)/\ZcH a=ZeH (ZaS a) (ZaY a)/\Zcm a.2.1=some (Zaz (ZaY a) (ZaS a).2 (ZaS a).2.length):=by
 obtain⟨h1,h2,h3,h4,h5⟩:=ZiO h;have b:=built h4;rw[b.eq]at h5;refine⟨b,h5,?_⟩;rw[<-Zuk];have:a.2.1.map ZaH=(ZeH (ZaS a) (ZaY a)).2.1:=qW (λ x:Lv=>x.2.1) h5;rw[this,b.ranks]
theorem Zqo {a:Lv}(h:Zaq a=true):Zcd a=(ZaS a,ZaY a,true):=by
 obtain⟨h1,h2,h3,h4,h5⟩:=ZiO h;obtain⟨b,hm,hr⟩:=Zhq h;simp only[ZeR,uE]at h1;have hl:=b.len;have hge:=b.all_ge;have e1:(ZaS a).1=a.1:=rfl;rw[Zcd,hr];dsimp only;rw[if_pos]
 ·have:=b.all_take;rw[show a.1.toNat=(ZaY a).length by omega,this]
 ·simp only[ZgB,uK,uE,h2,Bh,and_true];omega
theorem ZvK {a:Lv}(h:(Zcd a).2.2=true):∃o,Zcm a.2.1=some o/\ZgB a o=true/\Zcd a=(ZaS a,o.take a.1.toNat,true):=by
 rw[Zcd]at h|-;split at h
 ·cases h
 ·rename_i o ho;split at h
  ·rename_i hs;refine⟨o,ho,hs,?_⟩;rw[if_pos hs]
  ·cases h
theorem ZiL {ls:List (List Int)}{o:List Int}(h:Zcm ls=some o):ls.length<=256/\tot ls<=512/\ZcE (tot ls) ls=true/\o=Zcc (tot ls) ls:=by
 rw[Zcm]at h;split at h
 ·cases h
 ·split at h
  ·cases h;exact⟨by omega,by omega,by assumption,rfl⟩
  ·cases h
theorem Zxi {ls:List (List Int)}(h:ZcE (tot ls) ls=true){v:Int}(h0:0<=v)(h1:v<tot ls):0<=ZaN ls v:=by
 rw[ZfA]at h;exact Zgf.2 (Zv1 h.2 h.1 (Zlj ls) v h0 h1)
theorem Zmz (a:Lv):Zaq a=Zh3 a:=by
 rw[gO];constructor
 ·intro h;have hs:=Zqo h;obtain⟨h1,h2,h3,h4,h5⟩:=ZiO h;rw[Zh3,hs];simp only[h4,h5,kJ,Zli,Ck,Cd]
 ·intro h;simp only[Zh3,uK,uE,Zli]at h;obtain⟨⟨h1,h2⟩,h3⟩:=h;obtain⟨o,ho,hso,hsf⟩:=ZvK h1;obtain⟨t1,t2,t3,rfl⟩:=ZiL ho;simp only[ZgB,uK,uE,yD,Zeq]at hso;obtain⟨⟨s1,s2,s3,s4⟩,s5⟩:=hso;have hrv:(Zcc (tot a.2.1) a.2.1).take a.1.toNat=ZaY a:=by
   rw[Zcc,<-Ai,List.take_range,jF (by omega),ZaY]
  rw[hsf,hrv]at h2 h3;dsimp only at h2 h3;have hfo:Zf1 a=true:=by
   rw[Zf1,yD,yR];intro v hv;have:=Zxi t3 (v:=v) (by omega) (by have:=yA.1 hv;omega);simp only[ZhF,uE];omega
  simp only[Zaq,ZeR,s5,hfo,h2,h3,Zli,uK,uE,Bh,and_true,Ck];omega
end Go.Proofs.YtjjbhjnpeenbkaaGreatDoor
namespace Go.Proofs.YtjjbhjnpeenbkaaGreatDoor
open Go Go.PS Go.Proofs
set_option maxRecDepth 100000
attribute [local irreducible] Zac wpG Zaa Zag
theorem Zc7 {a:Lv}(h:Zaq a=true):a.2.1.length<=256/\tot a.2.1<=512:=by
 have:=Zqo h;exact Zo3 (by rw[this])
theorem Zng (l:List Arc)(hn:l.length<=1000000):Zaa Tryz.prog 210 [Zak l] (Zak l):=by
 rcases gT (l=[])with rfl|hl
 ·refine kE Tryz.func210 ?_;intro hat B X w0;refine kw1 kO kc0 kc0 ?_;refine Zjd 4 rfl ?_;intro b;cases b
  ·refine kw1 (kow (Nat.beq 5) (b:=true)) kc0 kc0 ?_;exact Zdd rfl
  ·refine kw1 kO kc0 kc0 ?_;exact Zdd rfl
 ·have he:(l.map ZaZ).isEmpty=false:=by simpa using hl
  have hpos:0<l.length:=zZ.2 hl;refine kE Tryz.func210 ?_;intro hat B X w0;refine kw1 (kow (Nat.beq 5) (b:=true)) (kc2 he @Zat) kc0 ?_;exact ZcK (o:=7) rfl rfl (by simp) (uG (by simp))
theorem ZiJ (l:List Int)(hn:l.length<=1000000):Zaa Tryz.prog 214 [Zab l] (Zab l):=by
 rcases gT (l=[])with rfl|hl
 ·refine kE Tryz.func214 ?_;intro hat B X w0;refine kw1 kO kc0 kc0 ?_;refine Zjd 4 rfl ?_;intro b;cases b
  ·refine kw1 (kow (Nat.beq 5) (b:=true)) kc0 kc0 ?_;exact Zdd rfl
  ·refine kw1 kO kc0 kc0 ?_;exact Zdd rfl
 ·have he:(l.map D.int).isEmpty=false:=by simpa using hl
  have hpos:0<l.length:=zZ.2 hl;refine kE Tryz.func214 ?_;intro hat B X w0;refine kw1 (kow (Nat.beq 5) (b:=true)) (kc2 he @Zat) kc0 ?_;exact ZcK (o:=7) rfl rfl (by simp) (uG (by simp))
theorem Zkg (l:List (List Int))(hn:l.length<=1000)(hl:∀y,y∈l->y.length<=1000000):Zag Tryz.prog 247 [.d (Zae l)] [(2000, .dead)] (.ref 2000 1 0 l.length l.length) [(2000, .row 1 (l.map Zab))]:=by
 refine kM Tryz.func247 ?_;intro B X w0;refine kw1 kO kc0 kc0 ?_;refine Zas _ (Zsf 7 l.length rfl) ?_;refine Zaf (λ(k:Nat)=>k<=l.length) (λ k=>[(0, .d (Zae l)),(3, .ref 7 1 0 l.length l.length),(9, .int l.length),(10, .int k)]) (λ k=>[(7, .row 1 ((l.take k).map Zab++List.replicate (l.length-k) (.sl [])))]) (λ k=>l.length-k) 0 ?_ ?_ ?_
 ·exact uI _
 ·exact kN (kc4 @qC.{0} @yS.{0,0} @gJ.{0} @zG) []
 ·intro k hk;rcases uF k l.length with hlt|hge
  ·obtain⟨p,hp⟩:=Zad hlt;have hcp:=ZiJ p (hl p (uA hp));have hst:((l.take k).map Zab++List.replicate (l.length-k) (D.sl [])).set k (Zab p)=(l.take (k+1)).map Zab++List.replicate (l.length-(k+1)) (D.sl []):=by
    have hlk:((l.take k).map Zab).length=k:=by rw[uD,uS];omega
    have e:l.length-k=(l.length-(k+1))+1:=by omega
    rw[Bv,hlk,if_neg (by omega),jE,e,zD,kA,ZaB hp,uU,yO];rfl
   have hLn:((l.take k).map Zab++List.replicate (l.length-k) (D.sl [])).length=l.length:=by
    rw[uC,uD,uS,qX];omega
   have hgk:((l.take k).map Zab++List.replicate (l.length-k) (D.sl []))[k]? =some (D.sl []):=by
    rw[yU (by rw[uD,uS];omega),uD,uS,jF (by omega),jE,gK,if_pos (by omega)]
   refine kw1 kO (kc3 hp hLn hgk) (kc1 hcp) ?_;refine⟨k+1,?_,kN (kc1 hst) [],?_⟩
   ·omega
   ·omega
  ·have:k=l.length:=by omega
   subst this
   try dsimp only
   rw[yF,jE,By,yQ];refine kw1 kP kc0 kc0 ?_;refine kR kc0 [(2000,7)] [(2, .ref 2000 1 0 _ _)] [(2000, .row 1 _)] ?_;refine ZaX ?_;exact⟨rfl,uM.2 ⟨rfl,yB _⟩⟩
theorem Zti {r:List Int}{l:List Arc}{k:Nat}{a:Arc}(ha:l[k]? =some a):∀e,k<e->e<=l.length->(Za2 r l e)[k]? =some (ZaD r (Zaz r l k).length a)
 |0,h,_=>by omega
 |e+1,h,he=>by
  have hl:=Zk1 r l e (by omega);rw[Za2,Za1];rw[Za2]at hl;rcases qS.1 h with h1|rfl
  ·rw[qG (by rw[hl];exact h1)];exact Zti ha e h1 (by omega)
  ·rw[yU (by rw[hl];exact uH _),hl,jE,Zje,ha];rfl
theorem Zix {a:Lv}(h:Zaq a=true):a.2.2.1.length<=800/\a.2.2.2.length<=256/\∀y,y∈a.2.2.2->y.length<=260:=by
 obtain⟨b,hm,hr⟩:=Zhq h;have h1:a.2.2.1=ZaP (ZaY a) (ZaS a).2 (ZaS a).2.length:=qW (λ x:Lv=>x.2.2.1) hm;have h2:a.2.2.2=Za2 (ZaY a) (ZaS a).2 (ZaS a).2.length:=qW (λ x:Lv=>x.2.2.2) hm;have h3:=ZlG b.gap (ZaS a).2.length (uH _);have h4:=Zk1 (ZaY a) (ZaS a).2 (ZaS a).2.length (uH _);have h5:=b.all_len;have h6:=(Zid b.gok).2.2.1;rw[<-h1]at h3;rw[<-h2]at h4;refine⟨by omega,by omega,λ y hy=>?_⟩;obtain⟨k,hk⟩:=yV hy;have hkl:=(uB.1 hk).1;obtain⟨x,hx⟩:=Zad (l:=(ZaS a).2) (k:=k) (by omega);rw[h2,Zti hx _ (by omega) (uH _),yC]at hk;rw[<-hk,Zor,ZaE];have g1:=b.rk x.1.toNat;have g2:=b.rk x.2.toNat;have g3:=b.ends hx;rw[show((x.1.toNat:Nat):Int)=x.1 by omega]at g1;rw[show((x.2.toNat:Nat):Int)=x.2 by omega]at g2;omega
def Zew (a:Lv)(i:Int)(o:List Int):Lv×Int:=
 if Zaq a=false then(lv0,1)else if i<0\/(a.2.1.length:Int)<=i then(lv0,3)
 else if ZaH o≠ZaH ((a.2.1[i.toNat]?).getD [])then(lv0,6)else((a.1,a.2.1.set i.toNat o,a.2.2.1,a.2.2.2),0)
theorem Zrj (a:Lv)(i:Int)(o:List Int)(hw:wide a)(ho:o.length<=600):Zaa Tryz.prog 216 [lvD a, .int i,Zab o] (.tup [lvD (Zew a i o).1, .int (Zew a i o).2]):=by
 have hv:=Zhd a hw;rw[Zew];rcases h:Zaq a with _|_<;>rw[h]at hv
 ·rw[if_pos rfl];refine kE Tryz.func216 ?_;intro hat B X w0;refine kw1 kO kc0 (kc1 hv) ?_;refine⟨_,rfl,⟨_,_,_,_,rfl,?_⟩,Zah ?_,trivial⟩
  ·simp(disch:=omega) only[go_sem,simprocAttr,toD];rfl
  ·rfl
 ·rw[if_neg (by decide)];obtain⟨t1,t2⟩:=Zc7 h;by_cases hi:i<0\/(a.2.1.length:Int)<=i
  ·rw[if_pos hi];obtain⟨n,ls,ar,cs⟩:=a;dsimp only at hi t1;refine kE Tryz.func216 ?_;intro hat B X w0;refine kw kO kc0 (kc1 hv) ?_
   repeat' first|exact True.intro|refine Bn.mk ?_ ?_|intro hc
   all_goals
    refine⟨_,rfl,⟨_,_,_,_,rfl,?_⟩,Zah ?_,trivial⟩
    ·simp(disch:=omega) only[go_sem,simprocAttr,toD];rfl
    ·rfl
  ·rw[if_neg hi];obtain⟨y,hy⟩:=Zad (l:=a.2.1) (k:=i.toNat) (by omega);have hyl:=ZcU (uA hy);rw[hy,yW];have hv1:=Znv o;have hv2:=Znv y;have hs1:=ZlY o (by omega);have hs2:=ZlY y (by omega);have he:=Zq7 (ZaH o) (ZaH y);by_cases hso:ZaH o=ZaH y
   ·rw[if_neg (by simpa using hso)];rw[yN hso]at he;have hcl:=Zkg a.2.1 (by omega) (λ y hy=>by have:=ZcU hy;omega);have hbd:a.2.2.1.length<=1000000/\a.2.2.2.length<=1000/\∀y,y∈a.2.2.2->y.length<=1000000:=by
     obtain⟨s1,s2,s3⟩:=Zix h;exact⟨by omega,by omega,λ y hy=>by have:=s3 y hy;omega⟩
    have hca:=Zng a.2.2.1 hbd.1;have hcc:=Zkg a.2.2.2 hbd.2.1 hbd.2.2;have hco:=ZiJ o (by omega);obtain⟨n,ls,ar,cs⟩:=a;dsimp only at hi t1 hy hcl hca hcc;refine kE Tryz.func216 ?_;intro hat B X w0
    repeat' first|refine Zbt rfl ?_|refine ZaX ?_|refine wR ?_|(refine rc (hv) rfl ?_ ?_;(· first|rfl|simp(disch:=omega) only[go_sem,simprocAttr,qF,hy]))|(refine rc (hv1) rfl ?_ ?_;(· first|rfl|simp(disch:=omega) only[go_sem,simprocAttr,qF,hy]))|(refine rc (hv2) rfl ?_ ?_;(· first|rfl|simp(disch:=omega) only[go_sem,simprocAttr,qF,hy]))|(refine rc (hs1) rfl ?_ ?_;(· first|rfl|simp(disch:=omega) only[go_sem,simprocAttr,qF,hy]))|(refine rc (hs2) rfl ?_ ?_;(· first|rfl|simp(disch:=omega) only[go_sem,simprocAttr,qF,hy]))|(refine rc (he) rfl ?_ ?_;(· first|rfl|simp(disch:=omega) only[go_sem,simprocAttr,qF,hy]))|refine rcM [(2000,43)] (hcl) rfl ?_|refine rcM [(2000,49)] (hcc) rfl ?_|(refine rc (hca) rfl ?_ ?_;(· first|rfl|simp(disch:=omega) only[go_sem,simprocAttr,qF,hy]))|(refine rc (hco) rfl ?_ ?_;(· first|rfl|simp(disch:=omega) only[go_sem,simprocAttr,qF,hy]))|(refine Zbv rfl rfl (λ hc=>?_) (λ hc=>?_)<;>try simp only[hcL]at hc)|(refine Zbx _ rfl rfl (λ hc=>?_) (λ hc=>?_)<;>(try simp only[hcL]at hc)<;>try omega)|simp(disch:=omega) only[go_sem,simprocAttr,qF,hy]|apply And.intro|omega|decide+kernel
    refine⟨_,rfl,⟨_,_,_,_,rfl,?_⟩,Zah rfl,trivial⟩;simp(disch:=omega) only[go_sem,simprocAttr,toD,uD,yI,uH,qU];rw[uG (by rw[yI,uD];exact uH _),uG (by rw[uD];exact uH _)];simp only[lvD,Zae,yP]
   ·rw[if_pos (by simpa using hso)];rw[yE hso]at he;obtain⟨n,ls,ar,cs⟩:=a;dsimp only at hi t1 hy;refine kE Tryz.func216 ?_;intro hat B X w0;refine kw1 kO (kc1 hy) (kc6 hv hv1 hv2 hs1 hs2 he) ?_;refine⟨_,rfl,⟨_,_,_,_,rfl,?_⟩,Zah ?_,trivial⟩
    ·simp(disch:=omega) only[go_sem,simprocAttr,toD];rfl
    ·rfl
theorem ZCJ {a b:Lv}(h:ZcH a=ZcH b):Zaq a=Zaq b:=by
 obtain⟨n,ls,ar,cs⟩:=a;obtain⟨n',ls',ar',cs'⟩:=b;simp only[ZcH,Br]at h;obtain⟨rfl,h,rfl,rfl⟩:=h;have hlay:∀v,ZaN ls v=ZaN ls' v:=λ v=>by rw[<-Zn0,h,Zn0]
 have hlen:ls.length=ls'.length:=by rw[<-uD (f:=ZaH),h,uD]
 simp only[Zaq,ZeR,Zf1,ZaS,ZaY,ZhF,ZcH,hlay,hlen,h];have e:∀w:Nat->Bool,w=w:=λ _=>rfl
 congr 3
 ·congr 1
  congr 1
  funext v
  simp only[ZhF,hlay]
theorem ZvZ {a:Lv}{i:Nat}{o y:List Int}(hy:a.2.1[i]? =some y)(h:ZaH o=ZaH y):ZcH (a.1,a.2.1.set i o,a.2.2.1,a.2.2.2)=ZcH a:=by
 simp only[ZcH,yP,h]
 congr 2
 refine qI λ u=>?_
 rw[qD];split
 ·subst i;rw[uJ,hy];split
  ·rfl
  ·rename_i hn;rw[uD]at hn;exact absurd (uB.1 hy).1 hn
 ·rfl
theorem Zx7 {a:Lv}{i:Int}{o:List Int}(h:(Zew a i o).2=0):Zaq (Zew a i o).1=true:=by
 rw[Zew]at h|-;split at h
 ·cases h
 ·rename_i h1;split at h
  ·cases h
  ·rename_i h2;split at h
   ·cases h
   ·rename_i h3;rw[if_neg h1,if_neg h2,if_neg h3];obtain⟨y,hy⟩:=Zad (l:=a.2.1) (k:=i.toNat) (by omega);rw[hy,yW]at h3;rw[ZCJ (ZvZ hy (Decidable.not_not.1 h3))];simpa using h1
theorem Zua {a:Lv}{i:Int}{o:List Int}(hw:wide a)(ho:o.length<=600):wide (Zew a i o).1:=by
 rw[Zew];split
 ·intro y hy;cases hy
 ·split
  ·intro y hy;cases hy
  ·split
   ·intro y hy;cases hy
   ·intro y hy;rcases kT hy with hy|rfl
    ·exact hw y hy
    ·omega
end Go.Proofs.YtjjbhjnpeenbkaaGreatDoor
namespace Go.Proofs.YtjjbhjnpeenbkaaGreatDoor
open Go Go.PS Go.Proofs
set_option maxRecDepth 100000
attribute [local irreducible] Zac wpG Zaa Zag
theorem Zm9 {l m:List Int}{n:Nat}(h:n<l.length):at0 (l++m) n=at0 l n:=by
 rw[at0,at0,uL,qG h]
theorem Zto (r:List Int)(l:List Arc){e m:Nat}(h:e<=m):∃x,Zaz r l m=Zaz r l e++x:=by
 refine⟨((l.drop e).take (m-e)).flatMap λ a=>Zal r a (ZaE r a),?_⟩;rw[Zaz,Zaz,yO,<-List.flatMap_append]
 congr 2
 obtain⟨k,rfl⟩:∃k,m=e+k:=⟨m-e,by omega⟩;rw[List.take_add,kI]
theorem Zx0 {r:List Int}{l:List Arc}{e:Nat}{a:Arc}(ha:l[e]? =some a):ZaP r l (e+1)=ZaP r l e++ZbJ (ZaD r (Zaz r l e).length a) (ZaE r a+1):=by
 rw[ZaP,Za1,Zie,ha];rfl
theorem Zyy (r:List Int)(n0:Nat)(a:Arc):at0 (ZaD r n0 a) ((0:Nat):Int)=a.1:=rfl
theorem ZBq {r:List Int}{n0:Nat}{a:Arc}{j:Nat}(h:j<ZaE r a):at0 (ZaD r n0 a) ((j+1:Nat):Int)=((n0+j:Nat):Int):=by
 rw[ZaD,Zm9 (by rw[Zg0];omega),at0,uL,Zcr,kC];simp[h]
theorem Zz1 (r:List Int)(n0:Nat)(a:Arc):at0 (ZaD r n0 a) ((ZaE r a+1:Nat):Int)=a.2:=by
 rw[at0,uL,ZaD,yU (by rw[Zg0];exact uH _),Zg0,jE];rfl
namespace Built
variable {g:Gr}{r:List Int}
theorem chain_at (b:Built g r){e j:Nat}{a:Arc}(ha:g.2[e]? =some a)(hj:j<=ZaE r a+1):
  0<=at0 (ZaD r (Zaz r g.2 e).length a) j/\at0 (ZaD r (Zaz r g.2 e).length a) j<(Zaz r g.2 g.2.length).length/\at0 (Zaz r g.2 g.2.length) (at0 (ZaD r (Zaz r g.2 e).length a) j)=at0 r a.1+j:=by
 have hel:=(uB.1 ha).1;have he:=b.ends ha;have hg:=b.gap e a ha;have hl:=b.len;have hge:=b.all_ge;obtain⟨x,hx⟩:=Zto r g.2 (show 0<=g.2.length by omega);have h0:Zaz r g.2 0=r:=by simp[Zaz]
 rw[h0]at hx;have hpre:∀v:Int,0<=v->v<g.1->at0 (Zaz r g.2 g.2.length) v=at0 r v:=λ v h1 h2=>by
  obtain⟨n,rfl⟩:∃n:Nat,v=n:=⟨v.toNat,by omega⟩;rw[hx,Zm9 (by omega)]
 rcases qT j with rfl|h1
 ·rw[Zyy,hpre _ he.1 he.2.1];omega
 ·obtain⟨j,rfl⟩:∃i,j=i+1:=⟨j-1,by omega⟩;rcases uF j (ZaE r a)with h2|h2
  ·rw[ZBq h2];obtain⟨y,hy⟩:=Zto r g.2 (show e+1<=g.2.length by omega);rw[ZiZ ha]at hy;have hlen:=qW List.length hy;simp only[uC,ZgM]at hlen;refine⟨by omega,by omega,?_⟩;rw[hy,Zm9 (by rw[uC,ZgM];omega),at0,uL,yU (by omega),kI];simp only[Zal,uJ,qM h2,yY,yW];omega
  ·have hj2:j=ZaE r a:=by omega
   subst hj2;rw[Zz1,hpre _ he.2.2.1 he.2.2.2];have hgn:(ZaE r a:Int)=at0 r a.2-at0 r a.1-1:=by rw[ZaE];omega
   omega
end Built
end Go.Proofs.YtjjbhjnpeenbkaaGreatDoor
namespace Go.Proofs.YtjjbhjnpeenbkaaGreatDoor
open Go Go.PS Go.Proofs
set_option maxRecDepth 100000
attribute [local irreducible] Zac wpG Zaa Zag
theorem ZtO (m:List (Int×Int))(k v u:Int):Za5 (ZdL m k v) u=if k=u then v else Za5 m u:=by
 induction m with
 |nil=>simp only[ZdL,Za5]
 |cons p m ih=>
  obtain⟨a,b⟩:=p;simp only[ZdL];by_cases h:a=k
  ·rw[if_pos h];simp only[Za5];by_cases h2:k=u
   ·rw[if_pos h2,if_pos h2]
   ·rw[if_neg h2,if_neg h2,if_neg (by rw[h];exact h2)]
  ·rw[if_neg h];simp only[Za5,ih];by_cases h2:a=u
   ·rw[if_pos h2,if_neg (by omega)];simp[h2]
   ·rw[if_neg h2];simp[h2]
def ZeA (m:List (Int×Int))(y:List Int)(g:Nat->Int):Nat->List (Int×Int)
 |0=>m
 |k+1=>ZdL (ZeA m y g k) (at0 y k) (g k)
def Zcs (h:Nat->Nat->Int)(ls:List (List Int)):Nat->List (Int×Int)
 |0=>[]
 |i+1=>ZeA (Zcs h ls i) ((ls[i]?).getD []) (h i) (((ls[i]?).getD []).length)
def plM (ls:List (List Int)):List (Int×Int):=Zcs (λ _ k=>k) ls ls.length
def lyM (ls:List (List Int)):List (Int×Int):=Zcs (λ i _=>i) ls ls.length
theorem Zj1 :∀{y:List Int} {k:Nat} {v:Int},y.Nodup->y[k]? =some v->y.idxOf v=k
 |[],k,v,_,h=>by simp at h
 |a::y,0,v,_,h=>by simp at h;subst h;simp
 |a::y,k+1,v,hn,h=>by
  have hn2:=yZ.1 hn;have h2:y[k]? =some v:=by simpa using h
  have hne:a≠v:=λ e=>hn2.1 (e▸uA h2)
  have ih:=Zj1 hn2.2 h2;have hb:(a==v)=false:=by simpa using hne
  simp[List.idxOf_cons,hb,ih]
theorem ZsQ (m:List (Int×Int))(y:List Int)(g:Nat->Int)(u:Int):∀k,k<=y.length->y.Nodup->Za5 (ZeA m y g k) u=if u∈y.take k then g (y.idxOf u)else Za5 m u
 |0,_,_=>by simp[ZeA]
 |k+1,h,hn=>by
  have hk:=ZaK (r:=y) (i:=k) (by omega);have hi:y.idxOf (at0 y k)=k:=Zj1 hn hk;rw[ZeA,ZtO,ZsQ m y g u k (by omega) hn,ZaB hk];simp only[yH,uR];by_cases c:at0 y k=u
  ·rw[if_pos c,if_pos (.inr c.symm),<-c,hi]
  ·rw[if_neg c];by_cases c2:u∈y.take k
   ·rw[if_pos c2,if_pos (.inl c2)]
   ·rw[if_neg c2,if_neg (by rintro(h1|h1);exact c2 h1;exact c h1.symm)]
theorem Zn8 (h:Nat->Nat->Int)(ls:List (List Int))(hn:ls.flatten.Nodup)(u:Int):∀i,i<=ls.length->(∀k y,k<i->ls[k]? =some y->u∈y->Za5 (Zcs h ls i) u=h k (y.idxOf u))/\(u∉(ls.take i).flatten->Za5 (Zcs h ls i) u=0)
 |0,_=>⟨λ k y hk=>by omega,λ _=>rfl⟩
 |i+1,hi=>by
  obtain⟨y,hy⟩:=Zad (l:=ls) (k:=i) (by omega);obtain⟨g1,g2⟩:=Zn8 h ls hn u i (by omega);have hsub:∀z,z∈ls->z.Nodup:=λ z hz=>(jD.1 hn).1 z hz
  have hyn:=hsub y (uA hy);have hr:=ZsQ (Zcs h ls i) y (h i) u y.length (uH _) hyn;rw[yF]at hr;have ha:Zcs h ls (i+1)=ZeA (Zcs h ls i) y (h i) y.length:=by rw[Zcs,hy];rfl
  rw[ha,hr];refine⟨λ k z hk hz hu=>?_,λ hu=>?_⟩
  ·rcases qS.1 hk with h1|rfl
   ·have hd:=gU.1 (jD.1 hn).2 k i (uB.1 hz).1 (uB.1 hy).1 h1;have e1:=(uB.1 hz).2;have e2:=(uB.1 hy).2;rw[e1,e2]at hd;rw[if_neg (λ hu2=>hd u hu u hu2 rfl)];exact g1 k z h1 hz hu
   ·rw[hy]at hz;cases hz;rw[if_pos hu]
  ·rw[ZaB hy,zY,yH]at hu;rw[if_neg (λ hu2=>hu (.inr (by simpa using hu2)))];exact g2 λ hu2=>hu (.inl hu2)
theorem ZBy (a:Lv)(hn:a.2.1.length<=1000)(hl:∀y,y∈a.2.1->y.length<=1000):Zag Tryz.prog 251 [.d (lvD a)] [(2000, .dead),(2001, .dead)] (.tup [.mp 2000, .mp 2001]) [(2000, .imap (plM a.2.1)),(2001, .imap (lyM a.2.1))]:=by
 obtain⟨n,ls,ar,cs⟩:=a;dsimp only at hn hl;refine kM Tryz.func251 ?_;intro B X w0;refine kw1 kO kc0 kc0 ?_;refine Zaf (λ(i:Nat)=>i<=ls.length) (λ i=>[(1, .ptr 1 0 0 0),(2, .mp 8),(3, .mp 9),(11, .d (Zae ls)),(12, .int ls.length),(13, .int i)]) (λ i=>[(1, .cells [.int n, .d (Zae ls), .d (Zak ar), .d (Zae cs)]),(8, .imap (Zcs (λ _ k=>k) ls i)),(9, .imap (Zcs (λ i _=>i) ls i))]) (λ i=>ls.length-i) 0 ?_ ?_ ?_
 ·exact uI _
 ·exact kN (kc1 @Zcs.eq_1) []
 ·intro i hi;rcases uF i ls.length with hlt|hge
  ·obtain⟨y,hy⟩:=Zad hlt;have hyl:=hl y (uA hy);have e1:Zcs (λ _ k=>(k:Int)) ls (i+1)=ZeA (Zcs (λ _ k=>(k:Int)) ls i) y (λ k=>(k:Int)) y.length:=by rw[Zcs,hy];rfl
   have e2:Zcs (λ i _=>(i:Int)) ls (i+1)=ZeA (Zcs (λ i _=>(i:Int)) ls i) y (λ _=>(i:Int)) y.length:=by rw[Zcs,hy];rfl
   refine kw1 kO (kc1 hy) kc0 ?_;refine Zaf (λ(k:Nat)=>k<=y.length) (λ k=>[(1, .ptr 1 0 0 0),(2, .mp 8),(3, .mp 9),(4, .int i),(11, .d (Zae ls)),(12, .int ls.length),(13, .int i),(18, .d (Zab y)),(19, .int y.length),(20, .int k)]) (λ k=>[(1, .cells [.int n, .d (Zae ls), .d (Zak ar), .d (Zae cs)]),(8, .imap (ZeA (Zcs (λ _ k=>k) ls i) y (λ k=>(k:Int)) k)),(9, .imap (ZeA (Zcs (λ i _=>i) ls i) y (λ _=>(i:Int)) k))]) (λ k=>y.length-k) 0 ?_ ?_ ?_
   ·exact uI _
   ·exact kN (kc1 @ZeA.eq_1) []
   ·intro k hk;rcases uF k y.length with hlk|hgk
    ·have gy:=ZaK hlk;refine kw1 kO (kc1 gy) kc0 ?_;refine⟨k+1,?_,kN (kc1 @ZeA.eq_1) [],?_⟩
     ·omega
     ·omega
    ·have:k=y.length:=by omega
     subst this;refine kw1 kO kc0 kc0 ?_;refine⟨i+1,?_,kN (kc2 e1 e2) [],?_⟩
     ·omega
     ·omega
  ·have:i=ls.length:=by omega
   subst this;refine kw1 kP kc0 kc0 ?_;refine kR kc0 [(2000,8),(2001,9)] [(2, .mp 2000),(3, .mp 2001)] [(2000, .imap (plM ls)),(2001, .imap (lyM ls))] ?_;refine ZaX ?_;exact⟨⟨_,rfl,rfl,rfl,trivial⟩,uM.2 ⟨rfl,uM.2 ⟨rfl,yB _⟩⟩⟩
def Zck (ls:List (List Int))(v:Int)(r p:Nat):Prop:=∃y,ls[r]? =some y/\y[p]? =some v
theorem ZoA {ls:List (List Int)}{v:Int}(h:v∈ls.flatten):∃r p,Zck ls v r p:=by
 obtain⟨y,hy,hv⟩:=Ac.1 h;obtain⟨r,hr⟩:=yV hy;obtain⟨p,hp⟩:=yV hv;exact⟨r,p,y,hr,hp⟩
theorem Zck.mem {ls:List (List Int)}{v:Int}{r p:Nat}(h:Zck ls v r p):v∈ls.flatten:=by
 obtain⟨y,h1,h2⟩:=h;exact Ac.2 ⟨y,uA h1,uA h2⟩
theorem Zck.idx {ls:List (List Int)}(hn:ls.flatten.Nodup){v:Int}{r p:Nat}{y:List Int}(hy:ls[r]? =some y)(h:y[p]? =some v):y.idxOf v=p:=by
 have hyn:=(jD.1 hn).1 y (uA hy);exact Zj1 hyn h
theorem Zck.layer {ls:List (List Int)}(hn:ls.flatten.Nodup){v:Int}{r p r' p':Nat}(h:Zck ls v r p)(h':Zck ls v r' p'):r=r':=by
 obtain⟨y,h1,h2⟩:=h;obtain⟨z,h3,h4⟩:=h';have e1:=uB.1 h1;have e2:=uB.1 h3;have hp:=(jD.1 hn).2;rcases Am r r' with h|h|h
 ·have:=gU.1 hp r r' e1.1 e2.1 h;rw[e1.2,e2.2]at this;exact absurd rfl (this v (uA h2) v (uA h4))
 ·exact h
 ·have:=gU.1 hp r' r e2.1 e1.1 h;rw[e1.2,e2.2]at this;exact absurd rfl (this v (uA h4) v (uA h2))
theorem Zck.ly {ls:List (List Int)}(hn:ls.flatten.Nodup){v:Int}{r p:Nat}(h:Zck ls v r p):Za5 (lyM ls) v=r:=by
 obtain⟨y,h1,h2⟩:=h;exact(Zn8 _ ls hn v ls.length (uH _)).1 r y (uB.1 h1).1 h1 (uA h2)
theorem Zck.pl {ls:List (List Int)}(hn:ls.flatten.Nodup){v:Int}{r p:Nat}(h:Zck ls v r p):Za5 (plM ls) v=p:=by
 obtain⟨y,h1,h2⟩:=h;rw[plM,(Zn8 _ ls hn v ls.length (uH _)).1 r y (uB.1 h1).1 h1 (uA h2),Zck.idx hn h1 h2]
theorem Zck.lay {ls:List (List Int)}(hn:ls.flatten.Nodup){v:Int}{r p:Nat}(h:Zck ls v r p):ZaN ls v=r:=by
 have h0:=Zgf.2 h.mem;have hd:=h;obtain⟨y,h1,h2⟩:=h;rw[ZaN]at h0|-;cases hf:ls.findIdx? (λ y=>y.any λ x=>decide (x=v))with
 |none=>rw[hf]at h0;exact absurd h0 (by decide)
 |some k=>
  have hk:=List.findIdx?_eq_some_iff_getElem.1 hf;obtain⟨hk1,hk2,_⟩:=hk;obtain⟨x,hx,hxv⟩:=gM.1 hk2;have:x=v:=by simpa using hxv
  subst this;obtain⟨p',hp'⟩:=yV hx;have:=Zck.layer hn hd (⟨ls[k],uQ hk1,hp'⟩:Zck ls x k p');rw[this];rfl
structure Joins (ls:List (List Int))(x:Arc)(r p q:Nat):Prop where
 up:Zck ls x.1 r p
 dn:Zck ls x.2 (r+1) q
theorem Ze0 {a:Lv}(h:Zaq a=true):a.2.1.flatten.Nodup:=by
 obtain⟨_,_,hr⟩:=Zhq h;obtain⟨_,_,hg,_⟩:=ZiL hr;exact(ZfA.1 hg).2
theorem Zn6 {a:Lv}(h:Zaq a=true){k:Nat}{x:Arc}(hx:a.2.2.1[k]? =some x):∃r p q,Joins a.2.1 x r p q:=by
 have hn:=Ze0 h;obtain⟨b,hm,hr⟩:=Zhq h;obtain⟨_,_,hg,ho⟩:=ZiL hr;have har:a.2.2.1=ZaP (ZaY a) (ZaS a).2 (ZaS a).2.length:=qW (λ x:Lv=>x.2.2.1) hm
 have hmem:∀m,m<=(ZaS a).2.length->∀x,x∈ZaP (ZaY a) (ZaS a).2 m->∃e c j,(ZaS a).2[e]? =some c/\j<ZaE (ZaY a) c+1/\x=Zgs (ZaD (ZaY a) (Zaz (ZaY a) (ZaS a).2 e).length c) j:=by
  intro m
  induction m with
  |zero=>intro _ x hx;simp[ZaP,Za1]at hx
  |succ m ih=>
   intro hm x hx;obtain⟨c,hc⟩:=Zad (l:=(ZaS a).2) (k:=m) (by omega);rw[Zx0 hc,yH]at hx;rcases hx with hx|hx
   ·exact ih (by omega) x hx
   ·simp only[ZbJ,uN,yA]at hx;obtain⟨j,hj,rfl⟩:=hx;exact⟨m,c,j,hc,hj,rfl⟩
 obtain⟨e,c,j,hc,hj,rfl⟩:=hmem _ (uH _) x (har▸uA hx);obtain⟨x1,x2,x3⟩:=b.chain_at hc (j:=j) (by omega);obtain⟨y1,y2,y3⟩:=b.chain_at hc (j:=j+1) (by omega);rw[Zgs];generalize at0 (ZaD (ZaY a) (Zaz (ZaY a) (ZaS a).2 e).length c) j=u at x1 x2 x3|-;generalize at0 (ZaD (ZaY a) (Zaz (ZaY a) (ZaS a).2 e).length c) ((j+1:Nat):Int)=v at y1 y2 y3|-;have hlay:∀u:Int,0<=u->u<(Zaz (ZaY a) (ZaS a).2 (ZaS a).2.length).length->ZaN a.2.1 u=at0 (Zaz (ZaY a) (ZaS a).2 (ZaS a).2.length) u:=by
  intro u h0 h1;have hl:(Zaz (ZaY a) (ZaS a).2 (ZaS a).2.length).length=tot a.2.1:=by rw[ho,Zeq]
  obtain⟨n,rfl⟩:∃n:Nat,u=n:=⟨u.toNat,by omega⟩;have:=ZjG (c:=tot a.2.1) (v:=n) (by omega) a.2.1;rw[<-ho,ZaK (by omega),yC]at this;exact this.symm
 have e1:=hlay u x1 x2;have e2:=hlay v y1 y2;have hrk:=b.rk c.1.toNat;have hin:=b.ends hc;rw[show((c.1.toNat:Nat):Int)=c.1 by omega]at hrk;obtain⟨r,p,hl1⟩:=ZoA (Zgf.1 (show 0<=ZaN a.2.1 u by omega));obtain⟨r2,q,hl2⟩:=ZoA (Zgf.1 (show 0<=ZaN a.2.1 v by omega));have e3:=hl1.lay hn;have e4:=hl2.lay hn;have:r2=r+1:=by omega
 subst this;exact⟨r,p,q,hl1,hl2⟩
def ZeD (ls:List (List Int))(i f:Int)(p:Nat)(x:Arc):List Int:=
 if Za5 (lyM ls) x.1=i/\Za5 (lyM ls) x.2=f then(if Za5 (plM ls) x.1=p then[Za5 (plM ls) x.2]else[])
 else if Za5 (lyM ls) x.2=i/\Za5 (lyM ls) x.1=f then(if Za5 (plM ls) x.2=p then[Za5 (plM ls) x.1]else[])else[]
def ZdB (ls:List (List Int))(ar:List Arc)(i f:Int)(k p:Nat):List Int:=(ar.take k).flatMap (ZeD ls i f p)
theorem Zsu {ls:List (List Int)}{ar:List Arc}{i f:Int}{k:Nat}{x:Arc}(hx:ar[k]? =some x)(p:Nat):ZdB ls ar i f (k+1) p=ZdB ls ar i f k p++ZeD ls i f p x:=by
 simp[ZdB,ZaB hx]
theorem ZAs (ls:List (List Int))(i f:Int)(p:Nat)(x:Arc):(ZeD ls i f p x).length<=1:=by
 unfold ZeD;split
 ·split<;>simp
 ·split
  ·split<;>simp
  ·simp
theorem Zib (ls:List (List Int))(ar:List Arc)(i f:Int)(p:Nat):∀k,(ZdB ls ar i f k p).length<=k
 |0=>by simp[ZdB]
 |k+1=>by
  have ih:=Zib ls ar i f p k;rcases uF k ar.length with h|h
  ·obtain⟨x,hx⟩:=Zad h;have:=ZAs ls i f p x;rw[Zsu hx,uC];omega
  ·rw[ZdB,uG (by omega)];rw[ZdB,uG (by omega)]at ih;omega
def Zbc (ls:List (List Int))(ar:List Arc)(i f:Int)(n:Nat):List (List Int):=(List.range n).map (ZdB ls ar i f ar.length)
theorem ZBF (a:Lv)(i:Nat)(f:Int)(y:List Int)(h:Zaq a=true)(hy:a.2.1[i]? =some y):Zaa Tryz.prog 221 [lvD a, .int i, .int f] (Zae (Zbc a.2.1 a.2.2.1 i f y.length)):=by
 have hn:=Ze0 h;have hj:=λ k x hx=>Zn6 h (k:=k) (x:=x) hx
 obtain⟨s1,s2,s3⟩:=Zix h;obtain⟨t1,t2⟩:=Zc7 h;have hp:=ZBy a (by omega) (λ y hy=>by have:=ZcU hy;omega);have hyl:=ZcU (uA hy);have hil:i<a.2.1.length:=(uB.1 hy).1;obtain⟨n,ls,ar,cs⟩:=a;dsimp only at*;obtain⟨N,hN⟩:∃N,N=y.length:=⟨_,rfl⟩;rw[<-hN]at hyl|-;refine kE Tryz.func221 ?_;intro hat B X w0;refine kw1 kO (kc2 hy hN.symm) (kc1 (kmc [(2000,914),(2001,915)] hp)) ?_;refine Zas _ (ZjS 1 23 1 N rfl (λ i hi=>by simp(disch:=omega) only[go_sem,simprocAttr,ZjM,Zeg]) (by decide) (by decide)) ?_;refine Zez (λ(k:Nat)=>k<=ar.length) (λ k=>[(1, .int i),(2, .int f),(3, .ptr 3 0 0 0),(7, .mp 914),(8, .mp 915),(9, .ref 23 1 0 N N),(25, .d (Zak ar)),(26, .int ar.length),(27, .int k)]) (λ k=>[⟨1,23,1,N,λ p=>(ZdB ls ar i f k p).map D.int⟩]) (λ k=>[(3, .cells [.int n, .d (Zae ls), .d (Zak ar), .d (Zae cs)]),(914, .imap (plM ls)),(915, .imap (lyM ls))]) (λ k=>ar.length-k) 0 ?_ ?_ ?_
 ·exact uI _
 ·refine kF kc0 [] [] ?_;exact kT0 (kc3 @ZdB.eq_1 @qC.{0} @Av.{0,0})
 ·intro k hk;rcases uF k ar.length with hlt|hge
  ·obtain⟨x,hx⟩:=Zad hlt;obtain⟨r,p,q,hup,hdn⟩:=hj k x hx;have l1:=hup.ly hn;have l2:=hdn.ly hn;have p1:=hup.pl hn;have p2:=hdn.pl hn;have hst:=Zsu (ls:=ls) (i:=i) (f:=f) hx;by_cases c1:r=i/\((r+1:Nat):Int)=f
   ·obtain⟨rfl,c2⟩:=c1;have hpN:p<N:=by
     obtain⟨z,z1,z2⟩:=hup;rw[hy]at z1;cases z1;rw[hN];exact(uB.1 z2).1
    have he:∀p',ZeD ls r f p' x=if p'=p then[(q:Int)]else[]:=λ p'=>by
     rw[ZeD,l1,l2,p1,p2,if_pos ⟨rfl,c2⟩];by_cases c:p'=p
     ·rw[if_pos (by omega),if_pos c]
     ·rw[if_neg (by omega),if_neg c]
    have hel:=Zib ls ar r f p k;refine Zas _ (Zfz _ _ [3,914,915,23] 23 p 900 1 1 N (by first|rfl|(simp(disch:=omega) only[go_sem,simprocAttr];done)|(simp(disch:=omega) only[go_sem,simprocAttr];rfl)) (by first|(simp(disch:=omega) only[go_sem,simprocAttr];done)|(simp(disch:=omega) only[go_sem,simprocAttr];rfl)) (by first|(simp(disch:=omega) only[go_sem,simprocAttr];done)|(simp(disch:=omega) only[go_sem,simprocAttr];rfl)) (λ i hi hne=>by simp(disch:=omega) only[go_sem,simprocAttr,hne];(repeat' split)<;>exact .ref _ _ _ _ _ ⟨by simp(disch:=omega) only[go_sem,simprocAttr,hne],by simp(disch:=omega) only[go_sem,simprocAttr,hne]⟩) (by(repeat' first|refine Zfn ?_|exact Ze4 (ids:=[3,914,915,23]) rfl rfl (uW rfl)|refine Zfr ?_|refine Zft ?_|refine Ze8 ?_|refine Zfa ?_|refine Zfe ?_|refine Ze6 (by dsimp only;omega) (by dsimp only;omega) (by omega) (by omega) (uW rfl) ?_);done) rfl rfl rfl) ?_;refine kw1 kO (kc8 hx l1 l2 p1 p2 c2 @yF.{0} @Zat) kc0 ?_;refine⟨k+1,?_,kF kc0 [(fid 1 p,63)] [] ?_,?_⟩
    ·omega
    ·exact kT1 (kc8 hst he @uU.{0,0} @uC.{0} @uD.{0,0} @uX.{0} @uZ.{0} (kc2 @yQ.{0} @Zat)) p
    ·omega
   ·by_cases c2:r+1=i/\(r:Int)=f
    ·obtain⟨c2,c3⟩:=c2;have c4:¬(r:Int)=i:=by omega
     have c5:((r+1:Nat):Int)=i:=by omega
     have hqN:q<N:=by
      obtain⟨z,z1,z2⟩:=hdn;rw[c2,hy]at z1;cases z1;rw[hN];exact(uB.1 z2).1
     have he:∀p',ZeD ls i f p' x=if p'=q then[(p:Int)]else[]:=λ p'=>by
      rw[ZeD,l1,l2,p1,p2,if_neg (λ h=>c4 h.1),if_pos ⟨c5,c3⟩];by_cases c:p'=q
      ·rw[if_pos (by omega),if_pos c]
      ·rw[if_neg (by omega),if_neg c]
     have hel:=Zib ls ar i f q k;refine Zas _ (Zfz _ _ [3,914,915,23] 23 q 900 1 1 N (by first|rfl|(simp(disch:=omega) only[go_sem,simprocAttr];done)|(simp(disch:=omega) only[go_sem,simprocAttr];rfl)) (by first|(simp(disch:=omega) only[go_sem,simprocAttr];done)|(simp(disch:=omega) only[go_sem,simprocAttr];rfl)) (by first|(simp(disch:=omega) only[go_sem,simprocAttr];done)|(simp(disch:=omega) only[go_sem,simprocAttr];rfl)) (λ i hi hne=>by simp(disch:=omega) only[go_sem,simprocAttr,hne];(repeat' split)<;>exact .ref _ _ _ _ _ ⟨by simp(disch:=omega) only[go_sem,simprocAttr,hne],by simp(disch:=omega) only[go_sem,simprocAttr,hne]⟩) (by(repeat' first|refine Zfn ?_|exact Ze4 (ids:=[3,914,915,23]) rfl rfl (uW rfl)|refine Zfr ?_|refine Zft ?_|refine Ze8 ?_|refine Zfa ?_|refine Zfe ?_|refine Ze6 (by dsimp only;omega) (by dsimp only;omega) (by omega) (by omega) (uW rfl) ?_);done) rfl rfl rfl) ?_;refine kw1 kO (kc8 hx l1 l2 p1 p2 c3 c4 (kc3 c5 @yF.{0} @Zat)) kc0 ?_;refine⟨k+1,?_,kF kc0 [(fid 1 q,97)] [] ?_,?_⟩
     ·omega
     ·exact kT1 (kc8 hst he @uU.{0,0} @uC.{0} @uD.{0,0} @uX.{0} @uZ.{0} (kc2 @yQ.{0} @Zat)) q
     ·omega
    ·have he:∀p',ZeD ls i f p' x=[]:=λ p'=>by
      rw[ZeD,l1,l2,p1,p2,if_neg (λ h=>c1 ⟨by omega,h.2⟩),if_neg (λ h=>c2 ⟨by omega,h.2⟩)]
     by_cases d1:(r:Int)=i<;>by_cases d2:((r+1:Nat):Int)=f<;>by_cases d3:((r+1:Nat):Int)=i<;>by_cases d4:(r:Int)=f
     all_goals try (exfalso;omega)
     all_goals
      refine kw1 kO (kc8 hx l1 l2 p1 p2 d1 d2 (kc2 d3 d4)) kc0 ?_;refine⟨k+1,?_,kF kc0 [] [] ?_,?_⟩
      ·omega
      ·exact kT0 (kc3 hst he @yQ.{0})
      ·omega
  ·have:k=ar.length:=by omega
   subst this
   try dsimp only
   refine Zas _ (Zi7 _ _ _ _ ⟨ZbM rfl,ZbM rfl,(by(repeat' first|exact fmn|refine fmc ⟨⟨uW rfl,uW rfl,by dsimp only;omega⟩,?_⟩);done)⟩ rfl [3,914,915,23] rfl rfl rfl rfl) ?_;refine kw1 kO kc0 kc0 ?_;refine ZcK (o:=23) rfl rfl (by simp) ?_;rw[uG (by simp),Zbc,gL];rfl
def Zcb (q:List Int)(x:Int):Nat:=(q.filter λ y=>decide (y<x)).length
def Zco :List Int->List Int->Nat
 |[],_=>0
 |x::p,q=>Zcb q x+Zco p q
theorem Zqm (q:List Int)(x:Int):Zcb q x<=q.length:=jY _ _
theorem Zvg (q:List Int)(x y:Int):Zcb (q++[y]) x=Zcb q x+if y<x then 1 else 0:=by
 rw[Zcb,jA,uC,<-Zcb];by_cases h:y<x
 ·simp[h]
 ·simp[h]
theorem ZtR (p q:List Int)(x:Int):Zco (p++[x]) q=Zco p q+Zcb q x:=by
 induction p with
 |nil=>simp[Zco]
 |cons y p ih=>simp only[jH,Zco,ih];omega
theorem Zoe (p q:List Int):Zco p q<=p.length*q.length:=by
 induction p with
 |nil=>simp[Zco]
 |cons y p ih=>
  have:=Zqm q y;simp only[Zco,uX,qJ];omega
theorem ZAX (p q:List Int)(hp:p.length<=1000)(hq:q.length<=1000):Zaa Tryz.prog 222 [Zab p,Zab q] (.int (Zco p q)):=by
 have hb:∀k,Zco (p.take k) q<=1000*1000:=λ k=>by
  refine gW (Zoe _ _) (zM ?_ hq);rw[uS];omega
 refine kE Tryz.func222 ?_;intro hat B X w0;refine kw1 kO kc0 kc0 ?_;refine Zaf (λ(i:Nat)=>i<=p.length) (λ i=>[(1, .d (Zab q)),(5, .int (Zco (p.take i) q)),(10, .d (Zab p)),(11, .int p.length),(12, .int i)]) (λ i=>[]) (λ i=>p.length-i) 0 ?_ ?_ ?_
 ·exact uI _
 ·exact kN (kc2 @qC.{0} @Zco.eq_1) []
 ·intro i hi;rcases uF i p.length with hlt|hge
  ·obtain⟨x,hx⟩:=Zad hlt;have e1:Zco (p.take (i+1)) q=Zco (p.take i) q+Zcb q x:=by rw[ZaB hx,ZtR]
   have hb1:=hb i;have hb2:=hb (i+1);refine kw1 kO (kc1 hx) kc0 ?_;refine Zaf (λ(j:Nat)=>j<=q.length) (λ j=>[(1, .d (Zab q)),(5, .int (Zco (p.take i) q+Zcb (q.take j) x)),(7, .int x),(10, .d (Zab p)),(11, .int p.length),(12, .int i),(16, .d (Zab q)),(17, .int q.length),(18, .int j)]) (λ j=>[]) (λ j=>q.length-j) 0 ?_ ?_ ?_
   ·exact uI _
   ·exact kN (kc5 @qC.{0} @Zcb.eq_1 @zR.{0} @uZ.{0} @jT) []
   ·intro j hj;rcases uF j q.length with hlj|hgj
    ·obtain⟨y,hy⟩:=Zad hlj;have e2:Zcb (q.take (j+1)) x=Zcb (q.take j) x+if y<x then 1 else 0:=by rw[ZaB hy,Zvg]
     have hu:=Zqm (q.take j) x;rw[uS]at hu;by_cases c:y<x
     ·rw[if_pos c]at e2;refine kw1 kO (kc2 hy c) kc0 ?_;refine⟨j+1,?_,kN (kc4 e2 @qN @gQ @zI) [],?_⟩
      ·omega
      ·omega
     ·rw[if_neg c]at e2;refine kw1 kO (kc2 hy c) kc0 ?_;refine⟨j+1,?_,kN (kc2 e2 @gF) [],?_⟩
      ·omega
      ·omega
    ·have:j=q.length:=by omega
     subst this
     try dsimp only
     rw[yF];refine kw1 kO kc0 kc0 ?_;refine⟨i+1,?_,kN (kc2 e1 @qN) [],?_⟩
     ·omega
     ·omega
  ·have:i=p.length:=by omega
   subst this
   try dsimp only
   rw[yF];refine kw1 kO kc0 kc0 ?_;exact Zah rfl
theorem Zi8 (a:Lv)(i:Int):Zaa Tryz.prog 217 [lvD a, .int i] (.bool (decide (0<=i/\i<a.2.1.length))):=by
 obtain⟨n,ls,ar,cs⟩:=a;refine kE Tryz.func217 ?_;intro hat B X w0;have hl:=ZbZ 0 1 hat rfl rfl;rw[uD]at hl;dsimp only at hl;by_cases c:0<=i
 ·refine kw1 kO (kc1 c) kc0 ?_;refine Zaj ?_;simp[c]
 ·refine kw1 kO (kc1 c) kc0 ?_;refine Zaj ?_;simp[c]
def Zav (l:List (List Int))(k:Nat):List Int:=(l[k]?).getD []
def ZdU (at_:List (List Int))(a b:Nat):Int:=if a=b then 0 else Zco (Zav at_ a) (Zav at_ b)
def ZcN (at_:List (List Int)):List (List Int):=(List.range at_.length).map λ a=>(List.range at_.length).map λ b=>ZdU at_ a b
def Zej (a:Lv)(i f:Int):Bool:=Zaq a&&decide (0<=i/\i<a.2.1.length)&&decide (0<=f/\f<a.2.1.length)&&decide (f=i-1\/f=i+1)
def Zcw (a:Lv)(i:Int):Nat:=((a.2.1[i.toNat]?).getD []).length
def ZaR (a:Lv)(i f:Int):List (List Int):=if Zej a i f then ZcN (Zbc a.2.1 a.2.2.1 i f (Zcw a i))else[]
def Zdq (at_:List (List Int))(a k:Nat):List Int:=Za0 (λ b=>ZdU at_ a b) at_.length k
theorem Zz8 (a:Lv)(i f:Nat)(hw:wide a)(hv:Zaq a=true)(hi:i<a.2.1.length)(hf:f<a.2.1.length)(hif:(f:Int)=i-1\/(f:Int)=i+1):
  Zaa Tryz.prog 177 [lvD a, .int i, .int f] (Zae (ZcN (Zbc a.2.1 a.2.2.1 i f (Zcw a i)))):=by
 have h1:=Zhd a hw;rw[hv]at h1;have h2:=Zi8 a i;have h3:=Zi8 a f;rw[yN (by omega)]at h2 h3;obtain⟨y,hy⟩:=Zad hi;have h4:=ZBF a i f y hv hy;have hla:Zcw a i=y.length:=by rw[Zcw,uL,hy];rfl
 rw[hla];obtain⟨t1,t2⟩:=Zc7 hv;have hyl:=ZcU (uA hy);obtain⟨s1,_,_⟩:=Zix hv;have hEl:(Zbc a.2.1 a.2.2.1 i f y.length).length=y.length:=by simp[Zbc]
 have hEn:∀p∈Zbc a.2.1 a.2.2.1 i f y.length,p.length<=1000:=by
  intro p hp;simp only[Zbc,uN,yA]at hp;obtain⟨k,_,rfl⟩:=hp;have:=Zib a.2.1 a.2.2.1 i f k a.2.2.1.length;omega
 generalize Zbc a.2.1 a.2.2.1 i f y.length=E at*;obtain⟨N,hN⟩:∃N,N=E.length:=⟨_,rfl⟩;have hN5:N<=512:=by omega
 have hbh:∀(u v:Nat) p q,E[u]? =some p->E[v]? =some q->Zaa Tryz.prog 222 [Zab p,Zab q] (.int (Zco p q)):=λ u v p q hu hv=>ZAX p q (hEn p (uA hu)) (hEn q (uA hv))
 obtain⟨n,ls,ar,cs⟩:=a;dsimp only at*;refine kE Tryz.func177 ?_;intro hat B X w0;rcases hif with hif|hif
 all_goals
  refine kw1 kO (kc2 hif hN.symm) (kc4 h1 h2 h3 h4) ?_;refine Zas _ (ZjS 1 44 1 N rfl (λ i hi=>by simp(disch:=omega) only[go_sem,simprocAttr,ZjM,Zeg]) (by decide) (by decide)) ?_;refine Zez (λ(u:Nat)=>u<=N) (λ u=>[(3, .ptr 3 0 0 0),(7, .d (Zae E)),(8, .ref 44 1 0 N N),(46, .int N),(47, .int u)]) (λ u=>[⟨1,44,1,N,λ k=>if k<u then(Zdq E k N).map D.int else[]⟩]) (λ u=>[(3, .cells [.int n, .d (Zae ls), .d (Zak ar), .d (Zae cs)])]) (λ u=>N-u) 0 ?_ ?_ ?_
  ·exact uI _
  ·refine kF (kc1 hN.symm) [] [] ?_;exact kT0 (kc1 @zS)
  ·intro u hu;rcases uF u N with hlt|hge
   ·obtain⟨eu,heu⟩:=Zad (l:=E) (k:=u) (by omega);have hz:List.replicate N (D.int 0)=(Zdq E u 0).map D.int:=by rw[Zdq,ZhK,hN]
    have hnu:¬u<u:=by omega
    refine Zas _ (Zfz _ _ [3,44] 44 u 900 1 1 N (by first|rfl|(simp(disch:=omega) only[go_sem,simprocAttr,hnu];done)|(simp(disch:=omega) only[go_sem,simprocAttr,hnu];rfl)) (by first|(simp(disch:=omega) only[go_sem,simprocAttr,hnu];done)|(simp(disch:=omega) only[go_sem,simprocAttr,hnu];rfl)) (by first|(simp(disch:=omega) only[go_sem,simprocAttr,hnu];done)|(simp(disch:=omega) only[go_sem,simprocAttr,hnu];rfl)) (λ i hi hne=>by simp(disch:=omega) only[go_sem,simprocAttr,hne,hnu];(repeat' split)<;>exact .ref _ _ _ _ _ ⟨by simp(disch:=omega) only[go_sem,simprocAttr,hne,hnu],by simp(disch:=omega) only[go_sem,simprocAttr,hne,hnu]⟩) (by(repeat' first|refine Zfn ?_|exact Ze4 (ids:=[3,44]) rfl rfl (uW rfl)|refine Zfr ?_|refine Zft ?_|refine Ze8 ?_|refine Zfa ?_|refine Zfe ?_|refine Ze6 (by dsimp only;omega) (by dsimp only;omega) (by omega) (by omega) (uW rfl) ?_);done) rfl rfl rfl) ?_;refine kw1 (kow (Nat.beq 54) (b:=true)) (kc2 hN.symm hnu) kc0 ?_;refine Zez (λ(b:Nat)=>b<=N) (λ b=>[(3, .ptr 3 0 0 0),(7, .d (Zae E)),(8, .ref 44 1 0 N N),(9, .int u),(46, .int N),(47, .int u),(57, .int N),(58, .int b)]) (λ b=>[⟨1,44,1,N,λ k=>if k<u then(Zdq E k N).map D.int else if k=u then(Zdq E u b).map D.int else[]⟩]) (λ b=>[(3, .cells [.int n, .d (Zae ls), .d (Zak ar), .d (Zae cs)])]) (λ b=>N-b) 0 ?_ ?_ ?_
    ·exact uI _
    ·refine kF (kc1 hN.symm) [(fid 1 u,54)] [] ?_;exact kT1 (kc6 hz @Zdh @Zdq.eq_1 @uD.{0,0} hN.symm hnu) u
    ·intro b hb;have hfl:=Zdh (λ b=>ZdU E u b) E.length b;rw[<-hN]at hfl;rcases uF b N with hlb|hgb
     ·obtain⟨eb,heb⟩:=Zad (l:=E) (k:=b) (by omega);have hg:(Zdq E u b)[b]? =some 0:=by rw[Zdq,ZeS (by omega),if_neg (by omega)]
      have hst:(Zdq E u b).set b (ZdU E u b)=Zdq E u (b+1):=ZhE (g:=λ b=>ZdU E u b) (by omega);have hbe:=hbh u b eu eb heu heb;have hfl2:(Zdq E u b).length=N:=by rw[Zdq,Zdh,hN]
      by_cases c:u=b
      ·have hcell:ZdU E u b=0:=by rw[ZdU,if_pos c]
       have hst2:Zdq E u (b+1)=Zdq E u b:=by
        rw[<-hst,hcell];refine qI λ v=>?_
        rw[qD];split
        ·rename_i hv2;subst hv2;rw[hg,if_pos (by omega)]
        ·rfl
       have cI:(u:Int)=b:=by omega
       refine kw1 kO (kc2 hN.symm cI) kc0 ?_;refine⟨b+1,?_,kF kc0 [] [] ?_,?_⟩
       ·omega
       ·exact kT1 (kc2 hst2 hnu) u
       ·omega
      ·have hcell:ZdU E u b=Zco eu eb:=by rw[ZdU,if_neg c,Zav,Zav,heu,heb];rfl
       have cI:¬(u:Int)=b:=by omega
       rw[hcell]at hst;refine Zas _ (Zfz _ _ [3,44] 44 u 900 1 1 N (by first|rfl|(simp(disch:=omega) only[go_sem,simprocAttr,hnu,hfl2];done)|(simp(disch:=omega) only[go_sem,simprocAttr,hnu,hfl2];rfl)) (by first|(simp(disch:=omega) only[go_sem,simprocAttr,hnu,hfl2];done)|(simp(disch:=omega) only[go_sem,simprocAttr,hnu,hfl2];rfl)) (by first|(simp(disch:=omega) only[go_sem,simprocAttr,hnu,hfl2];done)|(simp(disch:=omega) only[go_sem,simprocAttr,hnu,hfl2];rfl)) (λ i hi hne=>by simp(disch:=omega) only[go_sem,simprocAttr,hne,hnu,hfl2];(repeat' split)<;>exact .ref _ _ _ _ _ ⟨by simp(disch:=omega) only[go_sem,simprocAttr,hne,hnu,hfl2],by simp(disch:=omega) only[go_sem,simprocAttr,hne,hnu,hfl2]⟩) (by(repeat' first|refine Zfn ?_|exact Ze4 (ids:=[3,44]) rfl rfl (uW rfl)|refine Zfr ?_|refine Zft ?_|refine Ze8 ?_|refine Zfa ?_|refine Zfe ?_|refine Ze6 (by dsimp only;omega) (by dsimp only;omega) (by omega) (by omega) (uW rfl) ?_);done) rfl rfl rfl) ?_;refine kw1 kO (kc7 hN.symm cI heu heb hg hfl2 hnu) (kc1 hbe) ?_;refine⟨b+1,?_,kF kc0 [(fid 1 u,900)] [] ?_,?_⟩
       ·omega
       ·exact kT1 (kc6 @hst.symm @yP.{0,0} @yI.{0} @uD.{0,0} hfl2 hnu) u
       ·omega
     ·have:b=N:=by omega
      subst this;have hsu:∀i,i≠u->((i<u+1)=(i<u)):=λ i h=>propext (by omega)
      refine kw1 kO kc0 kc0 ?_;refine⟨u+1,?_,kF kc0 [] [] ?_,?_⟩
      ·omega
      ·exact kT1 (kc3 hnu hsu @Cw) u
      ·omega
   ·have:u=N:=by omega
    subst this
    try dsimp only
    refine Zas _ (Zi7 _ _ _ _ ⟨ZbM rfl,ZbM rfl,(by(repeat' first|exact fmn|refine fmc ⟨⟨uW rfl,uW rfl,by dsimp only;omega⟩,?_⟩);done)⟩ rfl [3,44] rfl rfl rfl rfl) ?_;refine kw1 kO kc0 kc0 ?_;refine ZcK (o:=44) rfl rfl (by simp) ?_;rw[uG (by simp),ZcN,<-hN,gL];refine yJ λ k hk=>?_
    rw[if_pos (yA.1 hk),Zdq,<-hN,Zhz];rfl
theorem Zwn (a:Lv)(i f:Int)(hw:wide a)(hm:Zej a i f=false):Zaa Tryz.prog 177 [lvD a, .int i, .int f] (Zae []):=by
 have h1:=Zhd a hw;have h2:=Zi8 a i;have h3:=Zi8 a f;rw[Zej]at hm;rcases c1:Zaq a with _|_<;>rw[c1]at h1 hm
 ·refine kE Tryz.func177 ?_;intro hat B X w0;refine kw1 kO kc0 (kc1 h1) ?_;exact Zdd rfl
 ·by_cases c2:0<=i/\i<a.2.1.length
  ·rw[yN c2]at h2 hm;by_cases c3:0<=f/\f<a.2.1.length
   ·rw[yN c3]at h3 hm;have c4:¬(f=i-1\/f=i+1):=by simpa using hm
    have d1:¬f=i-1:=λ h=>c4 (.inl h)
    have d2:¬f=i+1:=λ h=>c4 (.inr h)
    obtain⟨t1,t2⟩:=Zc7 c1;refine kE Tryz.func177 ?_;intro hat B X w0;refine kw1 kO (kc2 d1 d2) (kc3 h1 h2 h3) ?_;exact Zdd rfl
   ·rw[yE c3]at h3;refine kE Tryz.func177 ?_;intro hat B X w0;refine kw1 kO kc0 (kc3 h1 h2 h3) ?_;exact Zdd rfl
  ·rw[yE c2]at h2;refine kE Tryz.func177 ?_;intro hat B X w0;refine kw1 kO kc0 (kc3 h1 h2 h3) ?_;exact Zdd rfl
theorem Zo2 (a:Lv)(i f:Int)(hw:wide a):Zaa Tryz.prog 177 [lvD a, .int i, .int f] (Zae (ZaR a i f)):=by
 rcases h:Zej a i f with _|_
 ·rw[ZaR,h,if_neg (by decide)];exact Zwn a i f hw h
 ·have e:ZaR a i f=ZcN (Zbc a.2.1 a.2.2.1 i f (Zcw a i)):=by rw[ZaR,h,if_pos rfl]
  rw[e];simp only[Zej,uK,uE]at h;obtain⟨⟨⟨h1,h2⟩,h3⟩,h4⟩:=h;obtain⟨i,rfl⟩:∃n:Nat,i=n:=⟨i.toNat,by omega⟩;obtain⟨f,rfl⟩:∃n:Nat,f=n:=⟨f.toNat,by omega⟩;exact Zz8 a i f hw h1 (by omega) (by omega) h4
def ZaF (f:Nat->Int):Nat->Int
 |0=>0
 |k+1=>ZaF f k+f k
theorem Zju {f:Nat->Int}{c:Nat}:∀n,(∀k,k<n->0<=f k/\f k<=c)->0<=ZaF f n/\ZaF f n<=((n*c:Nat):Int)
 |0,_=>by simp[ZaF]
 |n+1,h=>by
  have ih:=Zju n λ k hk=>h k (by omega)
  have:=h n (by omega);rw[ZaF,qJ];omega
theorem ZnE {f g:Nat->Int}:∀n,(∀k,k<n->f k=g k)->ZaF f n=ZaF g n
 |0,_=>rfl
 |n+1,h=>by rw[ZaF,ZaF,ZnE n λ k hk=>h k (by omega),h n (by omega)]
def Zai (m:List (List Int))(b a:Nat):Int:=at0 (Zav m b) a
def Zoi (m:List (List Int)):Int:=ZaF (λ a=>ZaF (λ b=>Zai m b a) a) m.length
structure Sq (m:List (List Int)):Prop where
 len:m.length<=600
 row:∀p,p∈m->p.length=m.length
 val:∀p,p∈m->∀x,x∈p->0<=x/\x<=1000000
theorem Sq.get {m:List (List Int)}(h:Sq m){b a:Nat}(hb:b<m.length)(ha:a<m.length):∃p,m[b]? =some p/\p.length=m.length/\p[a]? =some (Zai m b a)/\0<=Zai m b a/\Zai m b a<=1000000:=by
 obtain⟨p,hp⟩:=Zad hb;have hl:=h.row p (uA hp);have hg:=ZaK (r:=p) (i:=a) (by omega);have e:Zai m b a=at0 p a:=by rw[Zai,Zav,hp];rfl
 rw[<-e]at hg;exact⟨p,hp,hl,hg,h.val p (uA hp) _ (uA hg)⟩
theorem Sq.nil :Sq []:=⟨by simp,by simp,by simp⟩
theorem Zj6 (a:Lv)(i f:Int):Sq (ZaR a i f):=by
 rw[ZaR];split
 ·rename_i h;simp only[Zej,uK,uE]at h;obtain⟨⟨⟨h1,h2⟩,h3⟩,h4⟩:=h;obtain⟨t1,t2⟩:=Zc7 h1;obtain⟨s1,_,_⟩:=Zix h1;obtain⟨y,hy⟩:=Zad (l:=a.2.1) (k:=i.toNat) (by omega);have hyl:=ZcU (uA hy);have hla:Zcw a i=y.length:=by rw[Zcw,hy];rfl
  have hEn:∀k,(Zav (Zbc a.2.1 a.2.2.1 i f (Zcw a i)) k).length<=1000:=by
   intro k;rw[Zav];cases hk:(Zbc a.2.1 a.2.2.1 i f (Zcw a i))[k]? with
   |none=>simp
   |some p=>
    have hp:=uA hk;simp only[Zbc,uN,yA]at hp;obtain⟨k,_,rfl⟩:=hp;have:=Zib a.2.1 a.2.2.1 i f k a.2.2.1.length;simp only[yW];omega
  have hEl:(Zbc a.2.1 a.2.2.1 i f (Zcw a i)).length=y.length:=by simp[Zbc,hla]
  generalize Zbc a.2.1 a.2.2.1 i f (Zcw a i)=E at*;refine⟨by simp[ZcN,hEl];omega,λ p hp=>?_,λ p hp x hx=>?_⟩
  ·simp only[ZcN,uN,yA]at hp;obtain⟨k,_,rfl⟩:=hp;simp[ZcN]
  ·simp only[ZcN,uN,yA]at hp;obtain⟨k,_,rfl⟩:=hp;obtain⟨j,_,rfl⟩:=uN.1 hx;rw[ZdU];split
   ·omega
   ·have h1:=Zoe (Zav E k) (Zav E j);have h2:(Zav E k).length*(Zav E j).length<=1000*1000:=zM (hEn k) (hEn j);omega
 ·exact Sq.nil
def ZlA (a:Lv)(i:Int):Bool:=decide (¬(0<=i/\i<a.2.1.length)\/i=(a.2.1.length:Int)-1)
def Zb2 (a:Lv)(i:Int):Int:=if ZlA a i then 0 else Zoi (ZaR a i (i+1))
theorem Zpf {m:List (List Int)}(h:Sq m){x:Nat}(hx:x<m.length):∀k,k<=x->0<=ZaF (λ b=>Zai m b x) k/\ZaF (λ b=>Zai m b x) k<=600*1000000:=λ k hk=>by
 have:=Zju (f:=λ b=>Zai m b x) (c:=1000000) k λ b hb=>by obtain⟨_,_,_,_,h5⟩:=h.get (b:=b) (a:=x) (by omega) hx;exact h5
 have:=h.len;have h2:k*1000000<=600*1000000:=yL _ (by omega);omega
theorem ZlO {m:List (List Int)}(h:Sq m):∀k,k<=m.length->0<=ZaF (λ x=>ZaF (λ b=>Zai m b x) x) k/\ZaF (λ x=>ZaF (λ b=>Zai m b x) x) k<=600*600000000:=λ k hk=>by
 have:=Zju (f:=λ x=>ZaF (λ b=>Zai m b x) x) (c:=600000000) k λ x hx=>by have:=Zpf h (x:=x) (by omega) x (uH _);omega
 have:=h.len;have h2:k*600000000<=600*600000000:=yL _ (by omega);omega
theorem Zzh (a:Lv)(i:Int)(hw:wide a):Zaa Tryz.prog 169 [lvD a, .int i] (.int (Zb2 a i)):=by
 have h2:=Zi8 a i;have h3:=Zo2 a i (i+1) hw;rw[Zb2,ZlA];by_cases c1:0<=i/\i<a.2.1.length
 ·rw[yN c1]at h2;by_cases c2:i=(a.2.1.length:Int)-1
  ·rw[if_pos (by simp[c2])];obtain⟨n,ls,ar,cs⟩:=a;dsimp only at c1 c2;refine kE Tryz.func169 ?_;intro hat B X w0;have hl:=ZbZ 0 1 hat rfl rfl;rw[uD]at hl;dsimp only at hl;refine kw1 kO (kc1 c2.symm) (kc1 h2) ?_;exact Zah rfl
  ·rw[if_neg (by simp;omega)];have hs:=Zj6 a i (i+1);generalize ZaR a i (i+1)=m at h3 hs|-;have hml:=hs.len;obtain⟨n,ls,ar,cs⟩:=a;dsimp only at c1 c2;refine kE Tryz.func169 ?_;intro hat B X w0;have hl:=ZbZ 0 1 hat rfl rfl;rw[uD]at hl;dsimp only at hl;refine kw1 kO (kc1 c2) (kc2 h2 h3) ?_;refine Zaf (λ(x:Nat)=>x<=m.length) (λ x=>[(5, .int (ZaF (λ x=>ZaF (λ b=>Zai m b x) x) x)),(6, .d (Zae m)),(27, .int m.length),(28, .int x)]) (λ x=>[]) (λ x=>m.length-x) 0 ?_ ?_ ?_
   ·exact uI _
   ·exact kN (kc1 @ZaF.eq_1) []
   ·intro x hx;rcases uF x m.length with hlt|hge
    ·have ho:=ZlO hs x (by omega);have ho2:=ZlO hs (x+1) (by omega);have e1:ZaF (λ x=>ZaF (λ b=>Zai m b x) x) (x+1)=ZaF (λ x=>ZaF (λ b=>Zai m b x) x) x+ZaF (λ b=>Zai m b x) x:=rfl;obtain⟨s0,e0⟩:∃s0,ZaF (λ x=>ZaF (λ b=>Zai m b x) x) x=s0:=⟨_,rfl⟩;rw[e0]at ho e1;rw[e1]at ho2;refine kw1 kO kc0 kc0 ?_;refine Zaf (λ(y:Nat)=>y<=x) (λ y=>[(5, .int (s0+ZaF (λ b=>Zai m b x) y)),(6, .d (Zae m)),(7, .int x),(27, .int m.length),(28, .int x),(31, .int x),(32, .int y)]) (λ y=>[]) (λ y=>x-y) 0 ?_ ?_ ?_
     ·exact uI _
     ·exact kN (kc3 e0 @ZaF.eq_1 @jT) []
     ·intro y hy;rcases uF y x with hly|hgy
      ·obtain⟨p,hp,hpl,hpg,hp1,hp2⟩:=hs.get (b:=y) (a:=x) (by omega) hlt;have hi:=Zpf hs hlt y (by omega);have e2:ZaF (λ b=>Zai m b x) (y+1)=ZaF (λ b=>Zai m b x) y+Zai m y x:=rfl;refine kw1 kO (kc3 hp hpg hpl) kc0 ?_;refine⟨y+1,?_,kN (kc2 e2 @zI) [],?_⟩
       ·omega
       ·omega
      ·have:y=x:=by omega
       subst this;refine kw1 kO kc0 kc0 ?_;refine⟨y+1,?_,kN (kc1 e1) [],?_⟩
       ·omega
       ·omega
    ·have:x=m.length:=by omega
     subst this;refine kw1 kO kc0 kc0 ?_;exact Zah rfl
 ·rw[yE c1]at h2;rw[if_pos (by simp only[uE];exact .inl c1)];refine kE Tryz.func169 ?_;intro hat B X w0;refine kw1 kO kc0 (kc1 h2) ?_;exact Zah rfl
def Za7 (a:Lv):Int:=ZaF (λ i=>Zb2 a i) a.2.1.length
theorem Zs2 (a:Lv)(i:Int):0<=Zb2 a i/\Zb2 a i<=360000000000:=by
 rw[Zb2];split
 ·omega
 ·have hs:=Zj6 a i (i+1);have:=ZlO hs _ (uH _);rw[Zoi];omega
theorem Zs8 (a:Lv)(hw:wide a)(hl:a.2.1.length<=1000):Zaa Tryz.prog 105 [lvD a] (.int (Za7 a)):=by
 have hb:=λ i=>Zzh a i hw
 have hbl:=Zs2 a;have hs:∀k,k<=a.2.1.length->0<=ZaF (λ i=>Zb2 a i) k/\ZaF (λ i=>Zb2 a i) k<=1000*360000000000:=λ k hk=>by
  have:=Zju (f:=λ i=>Zb2 a i) (c:=360000000000) k λ i _=>hbl i
  have h2:k*360000000000<=1000*360000000000:=yL _ (by omega);omega
 rw[Za7];generalize hB:(λ i:Nat=>Zb2 a i)=Bf at hs|-;have hb2:∀i:Nat,Zaa Tryz.prog 169 [lvD a, .int i] (.int (Bf i)):=λ i=>by rw[<-hB];exact hb i
 obtain⟨n,ls,ar,cs⟩:=a;dsimp only at*;refine kE Tryz.func105 ?_;intro hat B X w0;refine kw1 kO kc0 kc0 ?_;refine Zaf (λ(i:Nat)=>i<=ls.length) (λ i=>[(1, .ptr 1 0 0 0),(3, .int (ZaF Bf i)),(7, .int ls.length),(8, .int i)]) (λ i=>[(1, .cells [.int n, .d (Zae ls), .d (Zak ar), .d (Zae cs)])]) (λ i=>ls.length-i) 0 ?_ ?_ ?_
 ·exact uI _
 ·exact kN (kc1 @ZaF.eq_1) []
 ·intro i hi;rcases uF i ls.length with hlt|hge
  ·have h1:=hs i hi;have h2:=hs (i+1) (by omega);have e1:ZaF Bf (i+1)=ZaF Bf i+Bf i:=rfl;have hbi:=hb2 i;refine kw1 kO kc0 (kc1 hbi) ?_;refine⟨i+1,?_,kN (kc1 e1) [],?_⟩
   ·omega
   ·omega
  ·have:i=ls.length:=by omega
   subst this;refine kw1 kO kc0 kc0 ?_;exact Zah rfl
def ZfQ (y z:List Int)(x:Arc):List (Int×Int):=if 0<=placeF y x.1/\0<=placeF z x.2 then[(placeF y x.1,placeF z x.2)]else[]
def Zbw (y z:List Int)(ar:List Arc):List (Int×Int):=ar.flatMap (ZfQ y z)
abbrev Zis (p:Int×Int):D:= .sl [.int p.1, .int p.2]
def Zk9 (c:List Int):Bool:=decide (60<c.length)
def ZfM (a:Lv):Bool:=decide (a.2.1.length<=60/\a.2.2.1.length<=90/\a.2.2.2.length<=90)&& !a.2.1.any Zk9&& !a.2.2.2.any Zk9
theorem ZoI {a:Lv}(h:ZfM a=true):a.2.1.length<=60/\a.2.2.1.length<=90/\a.2.2.2.length<=90/\(∀y,y∈a.2.1->y.length<=60)/\∀y,y∈a.2.2.2->y.length<=60:=by
 simp only[ZfM,uK,uE,yD,yR]at h;obtain⟨⟨⟨h1,h2,h3⟩,h4⟩,h5⟩:=h;refine⟨h1,h2,h3,λ y hy=>?_,λ y hy=>?_⟩
 ·have:=h4 y hy;simp only[Zk9,uE]at this;omega
 ·have:=h5 y hy;simp only[Zk9,uE]at this;omega
end Go.Proofs.YtjjbhjnpeenbkaaGreatDoor
namespace Go.Proofs.YtjjbhjnpeenbkaaGreatDoor
open Go Go.PS Go.Proofs
abbrev Pr :=Int×Int
def w1 (f:Pr->Int):List Pr->Int
 |[]=>0
 |y::F=>f y+w1 f F
def W (f:Pr->Pr->Int)(F:List Pr):List Pr->Int
 |[]=>0
 |x::E=>w1 (f x) F+W f F E
theorem ZkL {f g:Pr->Int}:∀{F:List Pr},(∀y,y∈F->f y=g y)->w1 f F=w1 g F
 |[],_=>rfl
 |y::F,h=>by rw[w1,w1,h y (by simp),ZkL λ z hz=>h z (uO _ hz)]
theorem Zjp {f g:Pr->Pr->Int}{F:List Pr}:∀{E:List Pr},(∀x,x∈E->∀y,y∈F->f x y=g x y)->W f F E=W g F E
 |[],_=>rfl
 |x::E,h=>by rw[W,W,ZkL (h x (by simp)),Zjp λ z hz=>h z (uO _ hz)]
theorem Zqp (f g:Pr->Int):∀F:List Pr,w1 (λ y=>f y+g y) F=w1 f F+w1 g F
 |[]=>rfl
 |y::F=>by rw[w1,w1,w1,Zqp f g F];omega
theorem Zsz (f g:Pr->Pr->Int)(F:List Pr):∀E:List Pr,W (λ x y=>f x y+g x y) F E=W f F E+W g F E
 |[]=>rfl
 |x::E=>by rw[W,W,W,Zqp,Zsz f g F E];omega
theorem Znk :∀F:List Pr,w1 (λ _=>0) F=0
 |[]=>rfl
 |y::F=>by rw[w1,Znk F];rfl
theorem Zrc (F:List Pr):∀E:List Pr,W (λ _ _=>0) F E=0
 |[]=>rfl
 |x::E=>by rw[W,Znk,Zrc F E];rfl
theorem Zqc (f:Nat->Pr->Pr->Int)(F E:List Pr):∀n,ZaF (λ k=>W (f k) F E) n=W (λ x y=>ZaF (λ k=>f k x y) n) F E
 |0=>by simp only[ZaF];rw[Zrc]
 |n+1=>by simp only[ZaF];rw[Zqc f F E n,Zsz]
theorem Zpn (f:Pr->Pr->Int):∀E:List Pr,W f [] E=0
 |[]=>rfl
 |x::E=>by rw[W,Zpn f E];rfl
theorem Zs4 (f:Pr->Pr->Int)(y:Pr)(F:List Pr):∀E:List Pr,W f (y::F) E=w1 (λ x=>f x y) E+W f F E
 |[]=>rfl
 |x::E=>by rw[W,W,w1,w1,Zs4 f y F E];omega
theorem ZqN (f:Pr->Pr->Int):∀F E:List Pr,W f F E=W (λ x y=>f y x) E F
 |[],E=>by rw[Zpn,W]
 |y::F,E=>by rw[Zs4,W,ZqN f F E]
theorem ZpP (g:Pr->Pr)(f:Pr->Int):∀F:List Pr,w1 f (F.map g)=w1 (λ y=>f (g y)) F
 |[]=>rfl
 |y::F=>by rw[uV,w1,w1,ZpP g f F]
theorem ZlN (g:Pr->Pr)(f:Pr->Pr->Int)(F:List Pr):∀E:List Pr,W f (F.map g) (E.map g)=W (λ x y=>f (g x) (g y)) F E
 |[]=>rfl
 |x::E=>by rw[uV,W,W,ZpP,ZlN g f F E]
def ind (p:Prop)[Decidable p]:Int:=if p then 1 else 0
theorem ZrQ (x:Int)(p:Pr->Bool)(g:Pr->Int):∀F:List Pr,((Zcb ((F.filter p).map g) x:Nat):Int)=w1 (λ y=>ind (p y=true/\g y<x)) F
 |[]=>rfl
 |y::F=>by
  have ih:=ZrQ x p g F;rw[w1,<-ih];by_cases hp:p y=true
  ·rw[List.filter_cons_of_pos hp,uV,Zcb,Zcb,zJ];by_cases hg:g y<x
   ·simp[ind,hp,hg];omega
   ·simp[ind,hp,hg]
  ·rw[List.filter_cons_of_neg hp];simp[ind,hp]
theorem Zoj (p q:Pr->Bool)(g:Pr->Int)(F:List Pr):∀E:List Pr,((Zco ((E.filter p).map g) ((F.filter q).map g):Nat):Int)=W (λ x y=>ind (p x=true/\q y=true/\g y<g x)) F E
 |[]=>rfl
 |x::E=>by
  have ih:=Zoj p q g F E;rw[W,<-ih];by_cases hp:p x=true
  ·rw[List.filter_cons_of_pos hp,uV,Zco,qN,ZrQ]
   congr 1
   refine ZkL λ y _=>?_
   simp[ind,hp]
  ·rw[List.filter_cons_of_neg hp];have:w1 (λ y=>ind (p x=true/\q y=true/\g y<g x)) F=0:=by
    rw[<-Znk F];refine ZkL λ y _=>?_
    simp[ind,hp]
   rw[this];omega
theorem Zmh (u:Int)(g:Nat->Int):∀n:Nat,(∀k:Nat,(k:Int)≠u->g k=0)->ZaF g n=if 0<=u/\u<n then g u.toNat else 0
 |0,_=>by rw[ZaF,if_neg (by omega)]
 |n+1,h=>by
  rw[ZaF,Zmh u g n h];by_cases c:(n:Int)=u
  ·subst c;rw[if_neg (by omega),if_pos (by omega),uL];omega
  ·rw[h n c];by_cases c2:0<=u/\u<n
   ·rw[if_pos c2,if_pos (by omega)];omega
   ·rw[if_neg c2,if_neg (by omega)];rfl
theorem Zin {y:List Int}(hn:y.Nodup){v:Int}{p:Nat}(h:y[p]? =some v):placeF y v=p:=by
 have hi:=Zj1 hn h;rw[placeF];cases hf:y.findIdx? (λ x=>decide (x=v))with
 |none=>
  have:=List.findIdx?_eq_none_iff.1 hf v (uA h);simp at this
 |some k=>
  obtain⟨hk,hk2,_⟩:=List.findIdx?_eq_some_iff_getElem.1 hf;have hv:y[k]=v:=by simpa using hk2
  have:=Zj1 hn (k:=k) (v:=v) (by rw[uQ hk,hv]);rw[ZcT];omega
theorem Zi0 {y:List Int}{v:Int}(h:v∉y):placeF y v=-1:=by
 rw[placeF,Zfm]
 ·rfl
 ·intro j z hz;simp only[qA];rintro rfl;exact h (uA hz)
theorem Zck.placeF {ls:List (List Int)}(hn:ls.flatten.Nodup){v:Int}{r p i:Nat}{y:List Int}(h:Zck ls v r p)(hy:ls[i]? =some y):Go.Proofs.YtjjbhjnpeenbkaaGreatDoor.placeF y v=if r=i then(p:Int)else -1:=by
 by_cases c:r=i
 ·subst c;rw[if_pos rfl];obtain⟨z,h1,h2⟩:=h;rw[hy]at h1;cases h1;exact Zin ((jD.1 hn).1 y (uA hy)) h2
 ·rw[if_neg c];refine Zi0 λ hv=>?_
  obtain⟨q,hq⟩:=yV hv;exact c (h.layer hn ⟨y,hy,hq⟩)
theorem Zob {ls:List (List Int)}(hn:ls.flatten.Nodup){x:Arc}{r p q i:Nat}{y z:List Int}(h:Joins ls x r p q)(hy:ls[i]? =some y)(hz:ls[i+1]? =some z):ZfQ y z x=if r=i then[((p:Int),(q:Int))]else[]:=by
 rw[ZfQ,h.up.placeF hn hy,h.dn.placeF hn hz];by_cases c:r=i
 ·simp[c]
 ·simp[c]
theorem Joins.lt {ls:List (List Int)}{x:Arc}{r p q:Nat}(h:Joins ls x r p q){y z:List Int}(hy:ls[r]? =some y)(hz:ls[r+1]? =some z):p<y.length/\q<z.length:=by
 obtain⟨⟨u,h1,h2⟩,⟨v,h3,h4⟩⟩:=h;rw[hy]at h1;cases h1;rw[hz]at h3;cases h3;exact⟨(uB.1 h2).1,(uB.1 h4).1⟩
section valid
variable {ls:List (List Int)}{ar:List Arc}(hn:ls.flatten.Nodup)(hj:∀x,x∈ar->∃r p q,Joins ls x r p q){i:Nat}{y z:List Int}(hy:ls[i]? =some y)(hz:ls[i+1]? =some z)
include hn hj hy hz
theorem ZxC :∀e,e∈Zbw y z ar->0<=e.1/\e.1<y.length/\0<=e.2/\e.2<z.length:=by
 intro e he;obtain⟨x,hx,he⟩:=kX.1 he;obtain⟨r,p,q,h⟩:=hj x hx;rw[Zob hn h hy hz]at he;split at he
 ·rename_i c;subst c;have:=h.lt hy hz;rw[uR]at he;subst he;dsimp only;omega
 ·cases he
theorem Zrl (p':Nat):ZdB ls ar i ((i:Int)+1) ar.length p'=((Zbw y z ar).filter λ e:Pr=>decide (e.1=(p':Int))).map (·.2):=by
 rw[ZdB,yF]
 induction ar with
 |nil=>rfl
 |cons x ar ih=>
  obtain⟨r,p,q,h⟩:=hj x (by simp);rw[gI,ih (λ w hw=>hj w (uO _ hw))];have e:Zbw y z (x::ar)=ZfQ y z x++Zbw y z ar:=by simp[Zbw]
  rw[e,jA,uU]
  congr 1
  rw[Zob hn h hy hz,ZeD,h.up.ly hn,h.dn.ly hn,h.up.pl hn,h.dn.pl hn];by_cases c:r=i
  ·subst c;rw[if_pos ⟨rfl,by omega⟩,if_pos rfl];by_cases c2:(p:Int)=p'
   ·simp[c2]
   ·simp[c2]
  ·rw[if_neg (by omega),if_neg (by omega),if_neg c];rfl
theorem ZpH (q':Nat):ZdB ls ar ((i+1:Nat):Int) i ar.length q'=((Zbw y z ar).filter λ e:Pr=>decide (e.2=(q':Int))).map (·.1):=by
 rw[ZdB,yF]
 induction ar with
 |nil=>rfl
 |cons x ar ih=>
  obtain⟨r,p,q,h⟩:=hj x (by simp);rw[gI,ih (λ w hw=>hj w (uO _ hw))];have e:Zbw y z (x::ar)=ZfQ y z x++Zbw y z ar:=by simp[Zbw]
  rw[e,jA,uU]
  congr 1
  rw[Zob hn h hy hz,ZeD,h.up.ly hn,h.dn.ly hn,h.up.pl hn,h.dn.pl hn];by_cases c:r=i
  ·subst c;rw[if_neg (by omega),if_pos ⟨by omega,rfl⟩,if_pos rfl];by_cases c2:(q:Int)=q'
   ·simp[c2]
   ·simp[c2]
  ·rw[if_neg (by omega),if_neg (by omega),if_neg c];rfl
end valid
end Go.Proofs.YtjjbhjnpeenbkaaGreatDoor
namespace Go.Proofs.YtjjbhjnpeenbkaaGreatDoor
open Go Go.PS Go.Proofs
theorem ZhJ {p:Prop}[Decidable p](h:¬p):ind p=0:=by simp[ind,h]
theorem Zsl {p:Prop}[Decidable p](h:p):ind p=1:=by simp[ind,h]
theorem Zil {p q:Prop}[Decidable p][Decidable q](h:p↔q):ind p=ind q:=by
 by_cases hp:p
 ·rw[Zsl hp,Zsl (h.1 hp)]
 ·rw[ZhJ hp,ZhJ λ hq=>hp (h.2 hq)]
theorem ZzI (own other:Pr->Int)(P:List Pr)(n:Nat)(hin:∀e,e∈P->0<=own e/\own e<n):
  ZaF (λ A=>ZaF (λ B=>W (λ x y=>ind (own x=(B:Int)/\own y=(A:Int)/\other y<other x)) P P) A) n=W (λ x y=>ind (own x<own y/\other y<other x)) P P:=by
 simp only[Zqc];refine Zjp λ x hx y hy=>?_
 have h1:=hin x hx;have h2:=hin y hy;have hA:∀A:Nat,ZaF (λ B:Nat=>ind (own x=(B:Int)/\own y=(A:Int)/\other y<other x)) A=ind (own x<A/\own y=(A:Int)/\other y<other x):=λ A=>by
  rw[Zmh (own x) _ A λ k hk=>ZhJ λ h=>hk h.1.symm];by_cases c:own x<A
  ·rw[if_pos ⟨h1.1,c⟩];refine Zil ?_;constructor
   ·rintro⟨_,h⟩;exact⟨c,h⟩
   ·rintro⟨_,h⟩;exact⟨by omega,h⟩
  ·rw[if_neg (λ h=>c h.2),ZhJ λ h=>c h.1]
 simp only[hA];rw[Zmh (own y) _ n λ k hk=>ZhJ λ h=>hk h.2.1.symm,if_pos h2];refine Zil ?_;constructor
 ·rintro⟨h,_,h'⟩;exact⟨by omega,h'⟩
 ·rintro⟨h,h'⟩;exact⟨by omega,by omega,h'⟩
theorem Zj2 (f:Nat->List Int){n k:Nat}(h:k<n):Zav ((List.range n).map f) k=f k:=by simp[Zav,h]
theorem ZlX {E:List (List Int)}{u v:Nat}(hu:u<E.length)(hv:v<E.length):Zai (ZcN E) u v=ZdU E u v:=by
 rw[Zai,ZcN,Zj2 _ hu,at0,uL];simp[hv]
structure Near (a:Lv)(i:Nat)(y z:List Int):Prop where
 ok:Zaq a=true
 hy:a.2.1[i]? =some y
 hz:a.2.1[i+1]? =some z
namespace Near
variable {a:Lv}{i:Nat}{y z:List Int}
theorem joins (h:Near a i y z):∀x,x∈a.2.2.1->∃r p q,Joins a.2.1 x r p q:=λ x hx=>by
 obtain⟨k,hk⟩:=yV hx;exact Zn6 h.ok hk
theorem lt (h:Near a i y z):i+1<a.2.1.length:=(uB.1 h.hz).1
theorem ins (h:Near a i y z):∀e,e∈Zbw y z a.2.2.1->0<=e.1/\e.1<y.length/\0<=e.2/\e.2<z.length:=ZxC (Ze0 h.ok) h.joins h.hy h.hz
theorem matD (h:Near a i y z):ZaR a i ((i:Int)+1)=ZcN (Zbc a.2.1 a.2.2.1 i ((i:Int)+1) y.length):=by
 have hl:=h.lt;have hok:Zej a i ((i:Int)+1)=true:=by
  simp[Zej,h.ok];omega
 rw[ZaR,if_pos hok,Zcw,uL,h.hy];rfl
theorem matU (h:Near a i y z):ZaR a ((i:Int)+1) i=ZcN (Zbc a.2.1 a.2.2.1 ((i+1:Nat):Int) i z.length):=by
 have hl:=h.lt;have hok:Zej a ((i:Int)+1) i=true:=by
  simp[Zej,h.ok];omega
 rw[ZaR,if_pos hok,Zcw,show((i:Int)+1).toNat=i+1 by omega,h.hz];rfl
theorem lenD (h:Near a i y z):(ZaR a i ((i:Int)+1)).length=y.length:=by rw[h.matD];simp[ZcN,Zbc]
theorem cellD (h:Near a i y z){u v:Nat}(hu:u<y.length)(hv:v<y.length):Zai (ZaR a i ((i:Int)+1)) u v=if u=v then 0 else W (λ x w=>ind (x.1=(u:Int)/\w.1=(v:Int)/\w.2<x.2)) (Zbw y z a.2.2.1) (Zbw y z a.2.2.1):=by
 rw[h.matD,ZlX (by simpa[Zbc]using hu) (by simpa[Zbc]using hv),ZdU];split
 ·rfl
 ·rw[Zbc,Zj2 _ hu,Zj2 _ hv,Zrl (Ze0 h.ok) h.joins h.hy h.hz,Zrl (Ze0 h.ok) h.joins h.hy h.hz,Zoj];simp only[uE]
theorem cellU (h:Near a i y z){u v:Nat}(hu:u<z.length)(hv:v<z.length):Zai (ZaR a ((i:Int)+1) i) u v=if u=v then 0 else W (λ x w=>ind (x.2=(u:Int)/\w.2=(v:Int)/\w.1<x.1)) (Zbw y z a.2.2.1) (Zbw y z a.2.2.1):=by
 rw[h.matU,ZlX (by simpa[Zbc]using hu) (by simpa[Zbc]using hv),ZdU];split
 ·rfl
 ·rw[Zbc,Zj2 _ hu,Zj2 _ hv,ZpH (Ze0 h.ok) h.joins h.hy h.hz,ZpH (Ze0 h.ok) h.joins h.hy h.hz,Zoj];simp only[uE]
abbrev cr (_:Near a i y z):Int:=W (λ x w=>ind (x.1<w.1/\w.2<x.2)) (Zbw y z a.2.2.1) (Zbw y z a.2.2.1)
theorem between (h:Near a i y z):Zb2 a i=h.cr:=by
 have hl:=h.lt;rw[Zb2,if_neg (by simp only[ZlA,uE];omega),Zoi,h.lenD];rw[ZnE (g:=λ A=>ZaF (λ B=>W (λ x w=>ind (x.1=(B:Int)/\w.1=(A:Int)/\w.2<x.2)) (Zbw y z a.2.2.1) (Zbw y z a.2.2.1)) A) _ λ A hA=>ZnE _ λ B hB=>by rw[h.cellD (by omega) hA,if_neg (by omega)]];exact ZzI (λ e=>e.1) (λ e=>e.2) _ _ λ e he=>⟨(h.ins e he).1,(h.ins e he).2.1⟩
end Near
namespace Near
variable {a:Lv}{i:Nat}{y z:List Int}
end Near
theorem ZlW {a:Lv}(h:Zaq a=true){i:Nat}(hi:i+1<a.2.1.length):∃y z,Near a i y z:=by
 obtain⟨y,hy⟩:=Zad (l:=a.2.1) (k:=i) (by omega);obtain⟨z,hz⟩:=Zad hi;exact⟨y,z,h,hy,hz⟩
end Go.Proofs.YtjjbhjnpeenbkaaGreatDoor
namespace Go.Proofs.YtjjbhjnpeenbkaaGreatDoor
open Go Go.PS Go.Proofs
set_option maxRecDepth 100000
attribute [local irreducible] Zac wpG Zaa Zag
end Go.Proofs.YtjjbhjnpeenbkaaGreatDoor
namespace Go.Proofs.YtjjbhjnpeenbkaaGreatDoor
open Go Go.PS Go.Proofs
theorem Zq4 {l m:List Int}(h:l.Perm m):ZaH l=ZaH m:=
 Az (le:=(·<=·)) (λ a b _ _ h1 h2=>Int.le_antisymm h1 h2) (Zof l) (Zof m) ((ZiA l).trans (h.trans (ZiA m).symm))
namespace Near
variable {a:Lv}{i:Nat}{y z:List Int}
end Near
namespace Near
variable {a:Lv}{i k:Nat}{y z:List Int}
end Near
end Go.Proofs.YtjjbhjnpeenbkaaGreatDoor
namespace Go.Proofs.YtjjbhjnpeenbkaaGreatDoor
open Go Go.PS Go.Proofs
set_option maxRecDepth 100000
attribute [local irreducible] Zac wpG Zaa Zag
section acc
variable {own oth:Pr->Int}{E:List Pr}{u v:Nat}{p q:Pr}
end acc
end Go.Proofs.YtjjbhjnpeenbkaaGreatDoor
