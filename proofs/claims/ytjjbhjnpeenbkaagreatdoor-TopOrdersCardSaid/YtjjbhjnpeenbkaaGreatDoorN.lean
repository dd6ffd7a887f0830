/- Levels: the plain laws of validity. -/
import Derived.Test.YtjjbhjnpeenbkaaGreatDoorD
set_option linter.unusedSimpArgs false
set_option linter.unusedVariables false
set_option maxHeartbeats 16000000
namespace Go.Proofs.YtjjbhjnpeenbkaaGreatDoor
open Go Go.PS Go.Proofs
theorem ZgQ :∀{l m:List Int},l.Nodup->(∀x,x∈l->x∈m)->l.length<=m.length
 |[],m,_,_=>uJ _
 |x::l,m,hn,hs=>by
  have hx:x∈m:=hs x (by simp);have h1:=zP hx;have h2:0<m.length:=Ay hx;have hn2:=yS.1 hn;have:=ZgQ (l:=l) (m:=m.erase x) hn2.2 (λ y hy=>by
   have hne:y≠x:=λ e=>hn2.1 (e▸hy)
   exact(Bl hne).2 (hs y (uM _ hy)))
  simp only[uV];omega
def below (c:Nat):List Int:=(List.range c).map λ n:Nat=>(n:Int)
theorem Znv (c:Nat):(below c).length=c:=by simp[below]
theorem Zjg {c:Nat}{v:Int}:v∈below c↔0<=v/\v<c:=by
 simp only[below,uN,yD];constructor
 ·rintro⟨n,h,rfl⟩;omega
 ·intro h;exact⟨v.toNat,by omega,by omega⟩
theorem Zsu (c:Nat):(below c).Nodup:=by
 refine List.Pairwise.map _ ?_ (zT (n:=c));intro a b h;omega
theorem ZvF {c:Nat}{l:List Int}(hn:l.Nodup)(hb:∀v,v∈l->0<=v/\v<c)(hl:l.length=c)(v:Int)(h0:0<=v)(h1:v<c):v∈l:=by
 by_cases h:v∈l
 ·exact h
 ·have:=ZgQ (l:=v::l) (m:=below c) (yS.2 ⟨h,hn⟩) (λ x hx=>by
   rcases yH.1 hx with rfl|hx
   ·exact Zjg.2 ⟨h0,h1⟩
   ·exact Zjg.2 (hb x hx))
  rw[Znv,uV]at this;omega
theorem Zhq {A:List Int}{k:Nat}{v:Int}:v∈ZaT A k↔0<=v/\A[v.toNat]? =some (k:Int):=by
 simp only[ZaT,uN,Aa,yD,uG];constructor
 ·rintro⟨n,⟨h1,h2⟩,rfl⟩;exact⟨by omega,by rw[uQ];exact h2⟩
 ·rintro⟨h1,h2⟩;exact⟨v.toNat,⟨(uB.1 h2).1,h2⟩,by omega⟩
theorem ZuT (A:List Int)(k:Nat):(ZaT A k).Pairwise (·<·):=by
 refine List.Pairwise.map (R:=(·<·)) _ ?_ ((kX (n:=A.length)).filter _);intro a b h;omega
theorem Zo3 {A:List Int}{M k:Nat}(h:k<M):(Zbs A M)[k]? =some (ZaT A k):=by simp[Zbs,h]
section layers
variable {A:List Int}{M:Nat}
theorem ZlE (hA:∀n:Nat,n<A.length->0<=at0 A n/\at0 A n<M){v:Int}:v∈(Zbs A M).flatten↔0<=v/\v<A.length:=by
 simp only[Zbs,Al,uN,yD];constructor
 ·rintro⟨y,⟨k,hk,rfl⟩,hv⟩;obtain⟨h1,h2⟩:=Zhq.1 hv;have:=(uB.1 h2).1;omega
 ·rintro⟨h1,h2⟩;have h3:=hA v.toNat (by omega);refine⟨_,⟨(at0 A v.toNat).toNat,by omega,rfl⟩,Zhq.2 ⟨h1,?_⟩⟩;rw[ZaS (by omega)]
  congr 1;omega
theorem Zo4 :(Zbs A M).flatten.Nodup:=by
 refine gY.2 ⟨λ y hy=>?_,?_⟩
 ·obtain⟨k,_,rfl⟩:=uN.1 hy;exact(ZuT A k).imp (λ h=>by omega)
 ·refine List.Pairwise.map _ ?_ (kX (n:=M));intro a b h x hx y hy e;subst e;have h1:=(Zhq.1 hx).2;rw[(Zhq.1 hy).2,uZ]at h1;omega
theorem ZuZ (hA:∀n:Nat,n<A.length->0<=at0 A n/\at0 A n<M):tot (Zbs A M)=A.length:=by
 rw[<-Zkk];have h1:=ZgQ (l:=(Zbs A M).flatten) (m:=below A.length) Zo4 (λ x hx=>Zjg.2 ((ZlE hA).1 hx));have h2:=ZgQ (l:=below A.length) (m:=(Zbs A M).flatten) (Zsu _) (λ x hx=>(ZlE hA).2 (Zjg.1 hx));rw[Znv]at h1 h2;omega
theorem ZuX (hA:∀n:Nat,n<A.length->0<=at0 A n/\at0 A n<M){n:Nat}(h:n<A.length):ZaN (Zbs A M) n=at0 A n:=by
 have h3:=hA n h;have hk:(Zbs A M)[(at0 A n).toNat]? =some (ZaT A (at0 A n).toNat):=Zo3 (by omega);have hm:((n:Nat):Int)∈ZaT A (at0 A n).toNat:=Zhq.2 ⟨by omega,by rw[uQ,ZaS h];congr 1;omega⟩;rw[ZaN,Zer hk (gO.2 ⟨_,hm,by simp⟩)]
 ·show(((at0 A n).toNat:Nat):Int)=_;omega
 ·intro j y hj hy;rw[Zo3 (by omega)]at hy;cases hy;rw[qU];intro x hx hxn;have:x=n:=by simpa using hxn
  subst this;have h4:=(Zhq.1 hx).2;rw[uQ,ZaS h,uZ]at h4;omega
theorem ZuW (hA:∀n:Nat,n<A.length->0<=at0 A n/\at0 A n<M):Zct A.length (Zbs A M)=true:=by
 rw[ZfP];exact⟨λ v hv=>(ZlE hA).1 hv,Zo4⟩
theorem ZuY (hA:∀n:Nat,n<A.length->0<=at0 A n/\at0 A n<M):ZbZ A.length (Zbs A M)=A:=by
 refine qL λ u=>?_
 by_cases hu:u<A.length
 ·rw[ZiO hu,ZuX hA hu,ZaS hu]
 ·rw[uP (by rw[Zex];omega),uP (by omega)]
end layers
theorem Zkb (ls:List (List Int)):(ls.map ZaF).flatten.Perm ls.flatten:=by
 induction ls with
 |nil=>exact .refl _
 |cons y ls ih=>simp only[uX,kB];exact(ZhG y).append ih
theorem ZyK (ls:List (List Int)):tot (ls.map ZaF)=tot ls:=by
 rw[<-Zkk,<-Zkk];exact(Zkb ls).length_eq
theorem Zmr (ls:List (List Int))(v:Int):ZaN (ls.map ZaF) v=ZaN ls v:=by
 rw[ZaN,ZaN,List.findIdx?_map]
 congr 2
 funext y
 show(ZaF y).any _=y.any _;rw[gK,gO,gO];constructor
 ·rintro⟨x,h1,h2⟩;exact⟨x,(ZhG y).mem_iff.1 h1,h2⟩
 ·rintro⟨x,h1,h2⟩;exact⟨x,(ZhG y).mem_iff.2 h1,h2⟩
theorem ZyH (c:Nat)(ls:List (List Int)):Zct c (ls.map ZaF)=Zct c ls:=by
 rw[gK,ZfP,ZfP,(Zkb ls).nodup_iff];constructor
 ·rintro⟨h1,h2⟩;exact⟨λ v hv=>h1 v ((Zkb ls).mem_iff.2 hv),h2⟩
 ·rintro⟨h1,h2⟩;exact⟨λ v hv=>h1 v ((Zkb ls).mem_iff.1 hv),h2⟩
theorem ZyJ (c:Nat)(ls:List (List Int)):ZbZ c (ls.map ZaF)=ZbZ c ls:=by simp only[ZbZ,Zmr]
theorem ZyI (ls:List (List Int)):Zb7 (ls.map ZaF)=Zb7 ls:=by
 rw[Zb7,Zb7,uE,ZyK,ZyH,ZyJ]
def Zfk (g:Gr)(r:List Int):Nat:=if g.1=0 then 0 else(Zch r (r.length-1)+1).toNat
structure Built (g:Gr)(r:List Int):Prop where
 eq:ZaH g r=(Zea g r,0)
 gok:gOk g=true
 len:(r.length:Int)=g.1
 rk:∀v:Nat,0<=at0 r v/\at0 r v<=255
 loop:∀a,a∈g.2->a.1≠a.2
 gap:∀(k:Nat) a,g.2[k]? =some a->0<=at0 r a.2-at0 r a.1-1
 big:g.1+ZaV r g.2 g.2.length<=512
theorem built {g:Gr}{r:List Int}(h:(ZaH g r).2=0):Built g r:=by
 rw[ZaH]at h;split at h
 ·cases h
 ·rename_i h1;have h1:Zdr g r=true:=by simpa using h1
  obtain⟨g1,g2,g3,g4⟩:=ZjZ h1;split at h
  ·cases h
  ·rename_i h2;split at h
   ·cases h
   ·rename_i h3;split at h
    ·cases h
    ·rename_i h4;refine⟨?_,g1,g2,g4,λ a ha=>?_,λ k a ha=>?_,by omega⟩
     ·rw[ZaH,h1,if_neg (by decide),if_neg h2,if_neg h3,if_neg h4]
     ·have:=qU.1 (Ax.2 h2) a ha;simpa[Zc7]using this
     ·have:=qU.1 (Ax.2 h3) a (uA ha);rw[Zcn,uG]at this;omega
theorem Zph (g:Gr)(r:List Int):(Zea g r).2.1=Zbs (Zaz r g.2 g.2.length) (Zfk g r):=by
 rw[Zea,Zfk];split
 ·rfl
 ·rfl
theorem Zsl {l:List Int}{P:Int->Prop}(h:∀x,x∈l->P x)(n:Nat)(hn:n<l.length):P (at0 l n):=h _ (uA (ZaS hn))
namespace Built
variable {g:Gr}{r:List Int}
theorem ends (b:Built g r){k:Nat}{a:Arc}(h:g.2[k]? =some a):0<=a.1/\a.1<g.1/\0<=a.2/\a.2<g.1:=(Zhl b.gok).2.2.2 k a h
theorem high (b:Built g r)(hp:0<r.length):(Zfk g r:Int)=Zch r (r.length-1)+1:=by
 have h1:=Zht r (r.length-1) 0 (by omega);have h2:=b.rk 0;have h3:=b.len;rw[Zfk,if_neg (by omega)];omega
theorem high_le (b:Built g r):Zfk g r<=256:=by
 have h2:=ZjK (λ j=>(b.rk j).2) (r.length-1);rw[Zfk];split<;>omega
theorem rk_lt (b:Built g r){n:Nat}(h:n<r.length):at0 r n<Zfk g r:=by
 have:=Zht r (r.length-1) n (by omega);rw[b.high (by omega)];omega
theorem vals (b:Built g r):∀n:Nat,n<(Zaz r g.2 g.2.length).length->0<=at0 (Zaz r g.2 g.2.length) n/\at0 (Zaz r g.2 g.2.length) n<Zfk g r:=by
 refine λ n hn=>Zsl (P:=λ x=>0<=x/\x<Zfk g r) ?_ n hn
 intro x hx;rw[Zaz,yI,yN]at hx;rcases hx with hx|hx
 ·obtain⟨k,hk⟩:=yW hx;have hkl:=(uB.1 hk).1;rw[ZaS hkl]at hk;cases hk;exact⟨(b.rk k).1,b.rk_lt hkl⟩
 ·obtain⟨a,ha,hx⟩:=kJ.1 hx;obtain⟨k,hk⟩:=yW ha;have he:=b.ends hk;have hg:=b.gap k a hk;have hl:=b.len;have h1:=b.rk a.1.toNat;have h2:=b.rk_lt (n:=a.2.toNat) (by omega);rw[show((a.1.toNat:Nat):Int)=a.1 by omega]at h1;rw[show((a.2.toNat:Nat):Int)=a.2 by omega]at h2;simp only[Zal,uN,yD]at hx;obtain⟨j,hj,rfl⟩:=hx;rw[ZaC]at hj;omega
theorem all_len (b:Built g r):(Zaz r g.2 g.2.length).length<=512:=by
 have h1:=Zja b.gap g.2.length (uH _);have h2:=b.len;have h3:=b.big;omega
theorem all_ge (b:Built g r):r.length<=(Zaz r g.2 g.2.length).length:=by simp[Zaz]
theorem all_take (b:Built g r):(Zaz r g.2 g.2.length).take r.length=r:=by simp[Zaz]
theorem ranks (b:Built g r):Zb7 (Zea g r).2.1=some (Zaz r g.2 g.2.length):=by
 have hv:=b.vals;have hl:=b.all_len;rw[Zph,Zb7,ZlD,ZuZ hv,if_neg (by have:=b.high_le;omega),ZuW hv,if_pos rfl,ZuY hv]
end Built
theorem ZmN {a:Lv}(h:Zay a=true):ZfQ a=true/\a.2.2.2.any Zdv=false/\Zfh a=true/\(ZaH (ZaU a) (Za0 a)).2=0/\ZcA a=(ZaH (ZaU a) (Za0 a)).1:=by
 simp only[Zay,uO,yK,uG,Zj6]at h;obtain⟨⟨⟨⟨h1,h2⟩,h3⟩,h4⟩,h5⟩:=h;exact⟨h1,h2,h3,h4,h5⟩
theorem ZiV {a:Lv}(h:Zay a=true):Built (ZaU a) (Za0 a)/\ZcA a=Zea (ZaU a) (Za0 a)/\Zb7 a.2.1=some (Zaz (Za0 a) (ZaU a).2 (ZaU a).2.length):=by
 obtain⟨h1,h2,h3,h4,h5⟩:=ZmN h;have b:=built h4;rw[b.eq]at h5;refine⟨b,h5,?_⟩;rw[<-ZyI];have:a.2.1.map ZaF=(Zea (ZaU a) (Za0 a)).2.1:=qW (λ x:Lv=>x.2.1) h5;rw[this,b.ranks]
theorem Zrl {a:Lv}(h:Zay a=true):Zb0 a=(ZaU a,Za0 a,true):=by
 obtain⟨h1,h2,h3,h4,h5⟩:=ZmN h;obtain⟨b,hm,hr⟩:=ZiV h;simp only[ZfQ,uG]at h1;have hl:=b.len;have hge:=b.all_ge;have e1:(ZaU a).1=a.1:=rfl;rw[Zb0,hr];dsimp only;rw[if_pos]
 ·have:=b.all_take;rw[show a.1.toNat=(Za0 a).length by omega,this]
 ·simp only[Zgl,uO,uG,h2,Cj,and_true];omega
theorem ZyN {a:Lv}(h:(Zb0 a).2.2=true):∃o,Zb7 a.2.1=some o/\Zgl a o=true/\Zb0 a=(ZaU a,o.take a.1.toNat,true):=by
 rw[Zb0]at h|-;split at h
 ·cases h
 ·rename_i o ho;split at h
  ·rename_i hs;refine⟨o,ho,hs,?_⟩;rw[if_pos hs]
  ·cases h
theorem Zj0 {ls:List (List Int)}{o:List Int}(h:Zb7 ls=some o):ls.length<=256/\tot ls<=512/\Zct (tot ls) ls=true/\o=ZbZ (tot ls) ls:=by
 rw[Zb7]at h;split at h
 ·cases h
 ·split at h
  ·cases h;exact⟨by omega,by omega,by assumption,rfl⟩
  ·cases h
theorem Zuf {ls:List (List Int)}(h:Zct (tot ls) ls=true){v:Int}(h0:0<=v)(h1:v<tot ls):0<=ZaN ls v:=by
 rw[ZfP]at h;exact Zfl.2 (ZvF h.2 h.1 (Zkk ls) v h0 h1)
theorem ZzM (a:Lv):Zay a=Zhz a:=by
 rw[gK];constructor
 ·intro h;have hs:=Zrl h;obtain⟨h1,h2,h3,h4,h5⟩:=ZmN h;rw[Zhz,hs];simp only[h4,h5,kK,Zj6,Cd,Bx]
 ·intro h;simp only[Zhz,uO,uG,Zj6]at h;obtain⟨⟨h1,h2⟩,h3⟩:=h;obtain⟨o,ho,hso,hsf⟩:=ZyN h1;obtain⟨t1,t2,t3,rfl⟩:=Zj0 ho;simp only[Zgl,uO,uG,yK,Zex]at hso;obtain⟨⟨s1,s2,s3,s4⟩,s5⟩:=hso;have hrv:(ZbZ (tot a.2.1) a.2.1).take a.1.toNat=Za0 a:=by
   rw[ZbZ,<-Ac,List.take_range,jA (by omega),Za0]
  rw[hsf,hrv]at h2 h3;dsimp only at h2 h3;have hfo:Zfh a=true:=by
   rw[Zfh,yK,qU];intro v hv;have:=Zuf t3 (v:=v) (by omega) (by have:=yD.1 hv;omega);simp only[ZgM,uG];omega
  simp only[Zay,ZfQ,s5,hfo,h2,h3,Zj6,uO,uG,Cj,and_true,Cd];omega
end Go.Proofs.YtjjbhjnpeenbkaaGreatDoor
namespace Go.Proofs.YtjjbhjnpeenbkaaGreatDoor
open Go Go.PS Go.Proofs
set_option maxRecDepth 100000
attribute [local irreducible] Zab wpG Zaa Zaf
theorem Zcv {a:Lv}(h:Zay a=true):a.2.1.length<=256/\tot a.2.1<=512:=by
 have:=Zrl h;exact Zp9 (by rw[this])
theorem ZkX (l:List Arc)(hn:l.length<=1000000):Zaa Tryz.prog 210 [Zak l] (Zak l):=by
 rcases gU (l=[])with rfl|hl
 ·refine kE Tryz.func210 ?_;intro hat B X w0;refine kw1 kO kc0 kc0 ?_;refine ZiK 4 rfl ?_;intro b;cases b
  ·refine kw1 (kow (Nat.beq 5) (b:=true)) kc0 kc0 ?_;exact ZcS rfl
  ·refine kw1 kO kc0 kc0 ?_;exact ZcS rfl
 ·have he:(l.map ZaY).isEmpty=false:=by simpa using hl
  have hpos:0<l.length:=zS.2 hl;refine kE Tryz.func210 ?_;intro hat B X w0;refine kw1 (kow (Nat.beq 5) (b:=true)) (kc2 he @Zat) kc0 ?_;exact Zda (o:=7) rfl rfl (by simp) (uD (by simp))
theorem Zhd (l:List Int)(hn:l.length<=1000000):Zaa Tryz.prog 214 [Zac l] (Zac l):=by
 rcases gU (l=[])with rfl|hl
 ·refine kE Tryz.func214 ?_;intro hat B X w0;refine kw1 kO kc0 kc0 ?_;refine ZiK 4 rfl ?_;intro b;cases b
  ·refine kw1 (kow (Nat.beq 5) (b:=true)) kc0 kc0 ?_;exact ZcS rfl
  ·refine kw1 kO kc0 kc0 ?_;exact ZcS rfl
 ·have he:(l.map D.int).isEmpty=false:=by simpa using hl
  have hpos:0<l.length:=zS.2 hl;refine kE Tryz.func214 ?_;intro hat B X w0;refine kw1 (kow (Nat.beq 5) (b:=true)) (kc2 he @Zat) kc0 ?_;exact Zda (o:=7) rfl rfl (by simp) (uD (by simp))
theorem Zjq (l:List (List Int))(hn:l.length<=1000)(hl:∀y,y∈l->y.length<=1000000):Zaf Tryz.prog 247 [.d (Zae l)] [(2000, .dead)] (.ref 2000 1 0 l.length l.length) [(2000, .row 1 (l.map Zac))]:=by
 refine kM Tryz.func247 ?_;intro B X w0;refine kw1 kO kc0 kc0 ?_;refine Zau _ (Zof 7 l.length rfl) ?_;refine Zai (λ(k:Nat)=>k<=l.length) (λ k=>[(0, .d (Zae l)),(3, .ref 7 1 0 l.length l.length),(9, .int l.length),(10, .int k)]) (λ k=>[(7, .row 1 ((l.take k).map Zac++List.replicate (l.length-k) (.sl [])))]) (λ k=>l.length-k) 0 ?_ ?_ ?_
 ·exact uJ _
 ·exact kN (kc4 @yY.{0} @yT.{0,0} @gF.{0} @kY) []
 ·intro k hk;rcases uF k l.length with hlt|hge
  ·obtain⟨p,hp⟩:=Zad hlt;have hcp:=Zhd p (hl p (uA hp));have hst:((l.take k).map Zac++List.replicate (l.length-k) (D.sl [])).set k (Zac p)=(l.take (k+1)).map Zac++List.replicate (l.length-(k+1)) (D.sl []):=by
    have hlk:((l.take k).map Zac).length=k:=by rw[uE,uS];omega
    have e:l.length-k=(l.length-(k+1))+1:=by omega
    rw[Bo,hlk,if_neg (by omega),gZ,e,kU,jV,ZaD hp,yB,yP];rfl
   have hLn:((l.take k).map Zac++List.replicate (l.length-k) (D.sl [])).length=l.length:=by
    rw[uC,uE,uS,qV];omega
   have hgk:((l.take k).map Zac++List.replicate (l.length-k) (D.sl []))[k]? =some (D.sl []):=by
    rw[yZ (by rw[uE,uS];omega),uE,uS,jA (by omega),gZ,gI,if_pos (by omega)]
   refine kw1 kO (kc3 hp hLn hgk) (kc1 hcp) ?_;refine⟨k+1,?_,kN (kc1 hst) [],?_⟩
   ·omega
   ·omega
  ·have:k=l.length:=by omega
   subst this
   try dsimp only
   rw[yI,gZ,Br,yO];refine kw1 kP kc0 kc0 ?_;refine kR kc0 [(2000,7)] [(2, .ref 2000 1 0 _ _)] [(2000, .row 1 _)] ?_;refine Za1 ?_;exact⟨rfl,uK.2 ⟨rfl,yA _⟩⟩
theorem ZnT {r:List Int}{l:List Arc}{k:Nat}{a:Arc}(ha:l[k]? =some a):∀e,k<e->e<=l.length->(ZaW r l e)[k]? =some (ZaA r (Zaz r l k).length a)
 |0,h,_=>by omega
 |e+1,h,he=>by
  have hl:=Zjp r l e (by omega);rw[ZaW,Zbm];rw[ZaW]at hl;rcases gA.1 h with h1|rfl
  ·rw[qH (by rw[hl];exact h1)];exact ZnT ha e h1 (by omega)
  ·rw[yZ (by rw[hl];exact uH _),hl,gZ,Zh0,ha];rfl
theorem Zhs {a:Lv}(h:Zay a=true):a.2.2.1.length<=800/\a.2.2.2.length<=256/\∀y,y∈a.2.2.2->y.length<=260:=by
 obtain⟨b,hm,hr⟩:=ZiV h;have h1:a.2.2.1=ZaO (Za0 a) (ZaU a).2 (ZaU a).2.length:=qW (λ x:Lv=>x.2.2.1) hm;have h2:a.2.2.2=ZaW (Za0 a) (ZaU a).2 (ZaU a).2.length:=qW (λ x:Lv=>x.2.2.2) hm;have h3:=Zje b.gap (ZaU a).2.length (uH _);have h4:=Zjp (Za0 a) (ZaU a).2 (ZaU a).2.length (uH _);have h5:=b.all_len;have h6:=(Zhl b.gok).2.2.1;rw[<-h1]at h3;rw[<-h2]at h4;refine⟨by omega,by omega,λ y hy=>?_⟩;obtain⟨k,hk⟩:=yW hy;have hkl:=(uB.1 hk).1;obtain⟨x,hx⟩:=Zad (l:=(ZaU a).2) (k:=k) (by omega);rw[h2,ZnT hx _ (by omega) (uH _),uZ]at hk;rw[<-hk,ZkV,ZaC];have g1:=b.rk x.1.toNat;have g2:=b.rk x.2.toNat;have g3:=b.ends hx;rw[show((x.1.toNat:Nat):Int)=x.1 by omega]at g1;rw[show((x.2.toNat:Nat):Int)=x.2 by omega]at g2;omega
def Zef (a:Lv)(i:Int)(o:List Int):Lv×Int:=
 if Zay a=false then(lv0,1)else if i<0\/(a.2.1.length:Int)<=i then(lv0,3)
 else if ZaF o≠ZaF ((a.2.1[i.toNat]?).getD [])then(lv0,6)else((a.1,a.2.1.set i.toNat o,a.2.2.1,a.2.2.2),0)
theorem Zm8 (a:Lv)(i:Int)(o:List Int)(hw:wide a)(ho:o.length<=600):Zaa Tryz.prog 216 [lvD a, .int i,Zac o] (.tup [lvD (Zef a i o).1, .int (Zef a i o).2]):=by
 have hv:=Zgt a hw;rw[Zef];rcases h:Zay a with _|_<;>rw[h]at hv
 ·rw[if_pos rfl];refine kE Tryz.func216 ?_;intro hat B X w0;refine kw1 kO kc0 (kc1 hv) ?_;refine⟨_,rfl,⟨_,_,_,_,rfl,?_⟩,Zah ?_,trivial⟩
  ·simp(disch:=omega) only[go_sem,simprocAttr,toD];rfl
  ·rfl
 ·rw[if_neg (by decide)];obtain⟨t1,t2⟩:=Zcv h;by_cases hi:i<0\/(a.2.1.length:Int)<=i
  ·rw[if_pos hi];obtain⟨n,ls,ar,cs⟩:=a;dsimp only at hi t1;refine kE Tryz.func216 ?_;intro hat B X w0;refine kw kO kc0 (kc1 hv) ?_
   repeat' first|exact True.intro|refine Bn.mk ?_ ?_|intro hc
   all_goals
    refine⟨_,rfl,⟨_,_,_,_,rfl,?_⟩,Zah ?_,trivial⟩
    ·simp(disch:=omega) only[go_sem,simprocAttr,toD];rfl
    ·rfl
  ·rw[if_neg hi];obtain⟨y,hy⟩:=Zad (l:=a.2.1) (k:=i.toNat) (by omega);have hyl:=ZcV (uA hy);rw[hy,yQ];have hv1:=Zkx o;have hv2:=Zkx y;have hs1:=Zkw o (by omega);have hs2:=Zkw y (by omega);have he:=Zog (ZaF o) (ZaF y);by_cases hso:ZaF o=ZaF y
   ·rw[if_neg (by simpa using hso)];rw[yM hso]at he;have hcl:=Zjq a.2.1 (by omega) (λ y hy=>by have:=ZcV hy;omega);have hbd:a.2.2.1.length<=1000000/\a.2.2.2.length<=1000/\∀y,y∈a.2.2.2->y.length<=1000000:=by
     obtain⟨s1,s2,s3⟩:=Zhs h;exact⟨by omega,by omega,λ y hy=>by have:=s3 y hy;omega⟩
    have hca:=ZkX a.2.2.1 hbd.1;have hcc:=Zjq a.2.2.2 hbd.2.1 hbd.2.2;have hco:=Zhd o (by omega);obtain⟨n,ls,ar,cs⟩:=a;dsimp only at hi t1 hy hcl hca hcc;refine kE Tryz.func216 ?_;intro hat B X w0
    repeat' first|refine ZbD rfl ?_|refine Za1 ?_|refine wR ?_|(refine rc (hv) rfl ?_ ?_;(· first|rfl|simp(disch:=omega) only[go_sem,simprocAttr,qA,hy]))|(refine rc (hv1) rfl ?_ ?_;(· first|rfl|simp(disch:=omega) only[go_sem,simprocAttr,qA,hy]))|(refine rc (hv2) rfl ?_ ?_;(· first|rfl|simp(disch:=omega) only[go_sem,simprocAttr,qA,hy]))|(refine rc (hs1) rfl ?_ ?_;(· first|rfl|simp(disch:=omega) only[go_sem,simprocAttr,qA,hy]))|(refine rc (hs2) rfl ?_ ?_;(· first|rfl|simp(disch:=omega) only[go_sem,simprocAttr,qA,hy]))|(refine rc (he) rfl ?_ ?_;(· first|rfl|simp(disch:=omega) only[go_sem,simprocAttr,qA,hy]))|refine rcM [(2000,43)] (hcl) rfl ?_|refine rcM [(2000,49)] (hcc) rfl ?_|(refine rc (hca) rfl ?_ ?_;(· first|rfl|simp(disch:=omega) only[go_sem,simprocAttr,qA,hy]))|(refine rc (hco) rfl ?_ ?_;(· first|rfl|simp(disch:=omega) only[go_sem,simprocAttr,qA,hy]))|(refine ZbF rfl rfl (λ hc=>?_) (λ hc=>?_)<;>try simp only[hcL]at hc)|(refine ZbC _ rfl rfl (λ hc=>?_) (λ hc=>?_)<;>(try simp only[hcL]at hc)<;>try omega)|simp(disch:=omega) only[go_sem,simprocAttr,qA,hy]|apply And.intro|omega|decide+kernel
    refine⟨_,rfl,⟨_,_,_,_,rfl,?_⟩,Zah rfl,trivial⟩;simp(disch:=omega) only[go_sem,simprocAttr,toD,uE,yL,uH,qS];rw[uD (by rw[yL,uE];exact uH _),uD (by rw[uE];exact uH _)];simp only[lvD,Zae,yR]
   ·rw[if_pos (by simpa using hso)];rw[yC hso]at he;obtain⟨n,ls,ar,cs⟩:=a;dsimp only at hi t1 hy;refine kE Tryz.func216 ?_;intro hat B X w0;refine kw1 kO (kc1 hy) (kc6 hv hv1 hv2 hs1 hs2 he) ?_;refine⟨_,rfl,⟨_,_,_,_,rfl,?_⟩,Zah ?_,trivial⟩
    ·simp(disch:=omega) only[go_sem,simprocAttr,toD];rfl
    ·rfl
theorem ZzN {a b:Lv}(h:ZcA a=ZcA b):Zay a=Zay b:=by
 obtain⟨n,ls,ar,cs⟩:=a;obtain⟨n',ls',ar',cs'⟩:=b;simp only[ZcA,Bi]at h;obtain⟨rfl,h,rfl,rfl⟩:=h;have hlay:∀v,ZaN ls v=ZaN ls' v:=λ v=>by rw[<-Zmr,h,Zmr]
 have hlen:ls.length=ls'.length:=by rw[<-uE (f:=ZaF),h,uE]
 simp only[Zay,ZfQ,Zfh,ZaU,Za0,ZgM,ZcA,hlay,hlen,h];have e:∀w:Nat->Bool,w=w:=λ _=>rfl
 congr 3
 ·congr 1
  congr 1
  funext v
  simp only[ZgM,hlay]
theorem Zw8 {a:Lv}{i:Nat}{o y:List Int}(hy:a.2.1[i]? =some y)(h:ZaF o=ZaF y):ZcA (a.1,a.2.1.set i o,a.2.2.1,a.2.2.2)=ZcA a:=by
 simp only[ZcA,yR,h]
 congr 2
 refine qL λ u=>?_
 rw[qD];split
 ·subst i;rw[uI,hy];split
  ·rfl
  ·rename_i hn;rw[uE]at hn;exact absurd (uB.1 hy).1 hn
 ·rfl
theorem Zw9 {a:Lv}{i:Int}{o:List Int}(h:(Zef a i o).2=0):Zay (Zef a i o).1=true:=by
 rw[Zef]at h|-;split at h
 ·cases h
 ·rename_i h1;split at h
  ·cases h
  ·rename_i h2;split at h
   ·cases h
   ·rename_i h3;rw[if_neg h1,if_neg h2,if_neg h3];obtain⟨y,hy⟩:=Zad (l:=a.2.1) (k:=i.toNat) (by omega);rw[hy,yQ]at h3;rw[ZzN (Zw8 hy (Decidable.not_not.1 h3))];simpa using h1
theorem Zxa {a:Lv}{i:Int}{o:List Int}(hw:wide a)(ho:o.length<=600):wide (Zef a i o).1:=by
 rw[Zef];split
 ·intro y hy;cases hy
 ·split
  ·intro y hy;cases hy
  ·split
   ·intro y hy;cases hy
   ·intro y hy;rcases kD hy with hy|rfl
    ·exact hw y hy
    ·omega
end Go.Proofs.YtjjbhjnpeenbkaaGreatDoor
namespace Go.Proofs.YtjjbhjnpeenbkaaGreatDoor
open Go Go.PS Go.Proofs
set_option maxRecDepth 100000
attribute [local irreducible] Zab wpG Zaa Zaf
theorem ZkF {l m:List Int}{n:Nat}(h:n<l.length):at0 (l++m) n=at0 l n:=by
 rw[at0,at0,uQ,qH h]
theorem Znj (r:List Int)(l:List Arc){e m:Nat}(h:e<=m):∃x,Zaz r l m=Zaz r l e++x:=by
 refine⟨((l.drop e).take (m-e)).flatMap λ a=>Zal r a (ZaC r a),?_⟩;rw[Zaz,Zaz,yP,<-List.flatMap_append]
 congr 2
 obtain⟨k,rfl⟩:∃k,m=e+k:=⟨m-e,by omega⟩;rw[List.take_add,zV]
theorem Zr6 {r:List Int}{l:List Arc}{e:Nat}{a:Arc}(ha:l[e]? =some a):ZaO r l (e+1)=ZaO r l e++ZbB (ZaA r (Zaz r l e).length a) (ZaC r a+1):=by
 rw[ZaO,Zbm,ZhX,ha];rfl
theorem Zs2 (r:List Int)(n0:Nat)(a:Arc):at0 (ZaA r n0 a) ((0:Nat):Int)=a.1:=rfl
theorem Zs4 {r:List Int}{n0:Nat}{a:Arc}{j:Nat}(h:j<ZaC r a):at0 (ZaA r n0 a) ((j+1:Nat):Int)=((n0+j:Nat):Int):=by
 rw[ZaA,ZkF (by rw[ZgA];omega),at0,uQ,Zcc,jW];simp[h]
theorem Zs3 (r:List Int)(n0:Nat)(a:Arc):at0 (ZaA r n0 a) ((ZaC r a+1:Nat):Int)=a.2:=by
 rw[at0,uQ,ZaA,yZ (by rw[ZgA];exact uH _),ZgA,gZ];rfl
namespace Built
variable {g:Gr}{r:List Int}
theorem chain_at (b:Built g r){e j:Nat}{a:Arc}(ha:g.2[e]? =some a)(hj:j<=ZaC r a+1):
  0<=at0 (ZaA r (Zaz r g.2 e).length a) j/\at0 (ZaA r (Zaz r g.2 e).length a) j<(Zaz r g.2 g.2.length).length/\at0 (Zaz r g.2 g.2.length) (at0 (ZaA r (Zaz r g.2 e).length a) j)=at0 r a.1+j:=by
 have hel:=(uB.1 ha).1;have he:=b.ends ha;have hg:=b.gap e a ha;have hl:=b.len;have hge:=b.all_ge;obtain⟨x,hx⟩:=Znj r g.2 (show 0<=g.2.length by omega);have h0:Zaz r g.2 0=r:=by simp[Zaz]
 rw[h0]at hx;have hpre:∀v:Int,0<=v->v<g.1->at0 (Zaz r g.2 g.2.length) v=at0 r v:=λ v h1 h2=>by
  obtain⟨n,rfl⟩:∃n:Nat,v=n:=⟨v.toNat,by omega⟩;rw[hx,ZkF (by omega)]
 rcases qT j with rfl|h1
 ·rw[Zs2,hpre _ he.1 he.2.1];omega
 ·obtain⟨j,rfl⟩:∃i,j=i+1:=⟨j-1,by omega⟩;rcases uF j (ZaC r a)with h2|h2
  ·rw[Zs4 h2];obtain⟨y,hy⟩:=Znj r g.2 (show e+1<=g.2.length by omega);rw[ZhV ha]at hy;have hlen:=qW List.length hy;simp only[uC,ZfV]at hlen;refine⟨by omega,by omega,?_⟩;rw[hy,ZkF (by rw[uC,ZfV];omega),at0,uQ,yZ (by omega),zV];simp only[Zal,uI,qQ h2,yV,yQ];omega
  ·have hj2:j=ZaC r a:=by omega
   subst hj2;rw[Zs3,hpre _ he.2.2.1 he.2.2.2];have hgn:(ZaC r a:Int)=at0 r a.2-at0 r a.1-1:=by rw[ZaC];omega
   omega
end Built
end Go.Proofs.YtjjbhjnpeenbkaaGreatDoor
namespace Go.Proofs.YtjjbhjnpeenbkaaGreatDoor
open Go Go.PS Go.Proofs
set_option maxRecDepth 100000
attribute [local irreducible] Zab wpG Zaa Zaf
theorem Zud (m:List (Int×Int))(k v u:Int):Zbp (Zew m k v) u=if k=u then v else Zbp m u:=by
 induction m with
 |nil=>simp only[Zew,Zbp]
 |cons p m ih=>
  obtain⟨a,b⟩:=p;simp only[Zew];by_cases h:a=k
  ·rw[if_pos h];simp only[Zbp];by_cases h2:k=u
   ·rw[if_pos h2,if_pos h2]
   ·rw[if_neg h2,if_neg h2,if_neg (by rw[h];exact h2)]
  ·rw[if_neg h];simp only[Zbp,ih];by_cases h2:a=u
   ·rw[if_pos h2,if_neg (by omega)];simp[h2]
   ·rw[if_neg h2];simp[h2]
def Zeg (m:List (Int×Int))(y:List Int)(g:Nat->Int):Nat->List (Int×Int)
 |0=>m
 |k+1=>Zew (Zeg m y g k) (at0 y k) (g k)
def Zca (h:Nat->Nat->Int)(ls:List (List Int)):Nat->List (Int×Int)
 |0=>[]
 |i+1=>Zeg (Zca h ls i) ((ls[i]?).getD []) (h i) (((ls[i]?).getD []).length)
def plM (ls:List (List Int)):List (Int×Int):=Zca (λ _ k=>k) ls ls.length
def lyM (ls:List (List Int)):List (Int×Int):=Zca (λ i _=>i) ls ls.length
theorem Zih :∀{y:List Int} {k:Nat} {v:Int},y.Nodup->y[k]? =some v->y.idxOf v=k
 |[],k,v,_,h=>by simp at h
 |a::y,0,v,_,h=>by simp at h;subst h;simp
 |a::y,k+1,v,hn,h=>by
  have hn2:=yS.1 hn;have h2:y[k]? =some v:=by simpa using h
  have hne:a≠v:=λ e=>hn2.1 (e▸uA h2)
  have ih:=Zih hn2.2 h2;have hb:(a==v)=false:=by simpa using hne
  simp[List.idxOf_cons,hb,ih]
theorem ZoB (m:List (Int×Int))(y:List Int)(g:Nat->Int)(u:Int):∀k,k<=y.length->y.Nodup->Zbp (Zeg m y g k) u=if u∈y.take k then g (y.idxOf u)else Zbp m u
 |0,_,_=>by simp[Zeg]
 |k+1,h,hn=>by
  have hk:=ZaS (r:=y) (i:=k) (by omega);have hi:y.idxOf (at0 y k)=k:=Zih hn hk;rw[Zeg,Zud,ZoB m y g u k (by omega) hn,ZaD hk];simp only[yN,uR];by_cases c:at0 y k=u
  ·rw[if_pos c,if_pos (.inr c.symm),<-c,hi]
  ·rw[if_neg c];by_cases c2:u∈y.take k
   ·rw[if_pos c2,if_pos (.inl c2)]
   ·rw[if_neg c2,if_neg (by rintro(h1|h1);exact c2 h1;exact c h1.symm)]
theorem Zln (h:Nat->Nat->Int)(ls:List (List Int))(hn:ls.flatten.Nodup)(u:Int):∀i,i<=ls.length->(∀k y,k<i->ls[k]? =some y->u∈y->Zbp (Zca h ls i) u=h k (y.idxOf u))/\(u∉(ls.take i).flatten->Zbp (Zca h ls i) u=0)
 |0,_=>⟨λ k y hk=>by omega,λ _=>rfl⟩
 |i+1,hi=>by
  obtain⟨y,hy⟩:=Zad (l:=ls) (k:=i) (by omega);obtain⟨g1,g2⟩:=Zln h ls hn u i (by omega);have hsub:∀z,z∈ls->z.Nodup:=λ z hz=>(gY.1 hn).1 z hz
  have hyn:=hsub y (uA hy);have hr:=ZoB (Zca h ls i) y (h i) u y.length (uH _) hyn;rw[yI]at hr;have ha:Zca h ls (i+1)=Zeg (Zca h ls i) y (h i) y.length:=by rw[Zca,hy];rfl
  rw[ha,hr];refine⟨λ k z hk hz hu=>?_,λ hu=>?_⟩
  ·rcases gA.1 hk with h1|rfl
   ·have hd:=jO.1 (gY.1 hn).2 k i (uB.1 hz).1 (uB.1 hy).1 h1;have e1:=(uB.1 hz).2;have e2:=(uB.1 hy).2;rw[e1,e2]at hd;rw[if_neg (λ hu2=>hd u hu u hu2 rfl)];exact g1 k z h1 hz hu
   ·rw[hy]at hz;cases hz;rw[if_pos hu]
  ·rw[ZaD hy,zR,yN]at hu;rw[if_neg (λ hu2=>hu (.inr (by simpa using hu2)))];exact g2 λ hu2=>hu (.inl hu2)
theorem Zwn (a:Lv)(hn:a.2.1.length<=1000)(hl:∀y,y∈a.2.1->y.length<=1000):Zaf Tryz.prog 251 [.d (lvD a)] [(2000, .dead),(2001, .dead)] (.tup [.mp 2000, .mp 2001]) [(2000, .imap (plM a.2.1)),(2001, .imap (lyM a.2.1))]:=by
 obtain⟨n,ls,ar,cs⟩:=a;dsimp only at hn hl;refine kM Tryz.func251 ?_;intro B X w0;refine kw1 kO kc0 kc0 ?_;refine Zai (λ(i:Nat)=>i<=ls.length) (λ i=>[(1, .ptr 1 0 0 0),(2, .mp 8),(3, .mp 9),(11, .d (Zae ls)),(12, .int ls.length),(13, .int i)]) (λ i=>[(1, .cells [.int n, .d (Zae ls), .d (Zak ar), .d (Zae cs)]),(8, .imap (Zca (λ _ k=>k) ls i)),(9, .imap (Zca (λ i _=>i) ls i))]) (λ i=>ls.length-i) 0 ?_ ?_ ?_
 ·exact uJ _
 ·exact kN (kc1 @Zca.eq_1) []
 ·intro i hi;rcases uF i ls.length with hlt|hge
  ·obtain⟨y,hy⟩:=Zad hlt;have hyl:=hl y (uA hy);have e1:Zca (λ _ k=>(k:Int)) ls (i+1)=Zeg (Zca (λ _ k=>(k:Int)) ls i) y (λ k=>(k:Int)) y.length:=by rw[Zca,hy];rfl
   have e2:Zca (λ i _=>(i:Int)) ls (i+1)=Zeg (Zca (λ i _=>(i:Int)) ls i) y (λ _=>(i:Int)) y.length:=by rw[Zca,hy];rfl
   refine kw1 kO (kc1 hy) kc0 ?_;refine Zai (λ(k:Nat)=>k<=y.length) (λ k=>[(1, .ptr 1 0 0 0),(2, .mp 8),(3, .mp 9),(4, .int i),(11, .d (Zae ls)),(12, .int ls.length),(13, .int i),(18, .d (Zac y)),(19, .int y.length),(20, .int k)]) (λ k=>[(1, .cells [.int n, .d (Zae ls), .d (Zak ar), .d (Zae cs)]),(8, .imap (Zeg (Zca (λ _ k=>k) ls i) y (λ k=>(k:Int)) k)),(9, .imap (Zeg (Zca (λ i _=>i) ls i) y (λ _=>(i:Int)) k))]) (λ k=>y.length-k) 0 ?_ ?_ ?_
   ·exact uJ _
   ·exact kN (kc1 @Zeg.eq_1) []
   ·intro k hk;rcases uF k y.length with hlk|hgk
    ·have gy:=ZaS hlk;refine kw1 kO (kc1 gy) kc0 ?_;refine⟨k+1,?_,kN (kc1 @Zeg.eq_1) [],?_⟩
     ·omega
     ·omega
    ·have:k=y.length:=by omega
     subst this;refine kw1 kO kc0 kc0 ?_;refine⟨i+1,?_,kN (kc2 e1 e2) [],?_⟩
     ·omega
     ·omega
  ·have:i=ls.length:=by omega
   subst this;refine kw1 kP kc0 kc0 ?_;refine kR kc0 [(2000,8),(2001,9)] [(2, .mp 2000),(3, .mp 2001)] [(2000, .imap (plM ls)),(2001, .imap (lyM ls))] ?_;refine Za1 ?_;exact⟨⟨_,rfl,rfl,rfl,trivial⟩,uK.2 ⟨rfl,uK.2 ⟨rfl,yA _⟩⟩⟩
def Zb2 (ls:List (List Int))(v:Int)(r p:Nat):Prop:=∃y,ls[r]? =some y/\y[p]? =some v
theorem Zo7 {ls:List (List Int)}{v:Int}(h:v∈ls.flatten):∃r p,Zb2 ls v r p:=by
 obtain⟨y,hy,hv⟩:=Al.1 h;obtain⟨r,hr⟩:=yW hy;obtain⟨p,hp⟩:=yW hv;exact⟨r,p,y,hr,hp⟩
theorem Zb2.mem {ls:List (List Int)}{v:Int}{r p:Nat}(h:Zb2 ls v r p):v∈ls.flatten:=by
 obtain⟨y,h1,h2⟩:=h;exact Al.2 ⟨y,uA h1,uA h2⟩
theorem Zb2.idx {ls:List (List Int)}(hn:ls.flatten.Nodup){v:Int}{r p:Nat}{y:List Int}(hy:ls[r]? =some y)(h:y[p]? =some v):y.idxOf v=p:=by
 have hyn:=(gY.1 hn).1 y (uA hy);exact Zih hyn h
theorem Zb2.layer {ls:List (List Int)}(hn:ls.flatten.Nodup){v:Int}{r p r' p':Nat}(h:Zb2 ls v r p)(h':Zb2 ls v r' p'):r=r':=by
 obtain⟨y,h1,h2⟩:=h;obtain⟨z,h3,h4⟩:=h';have e1:=uB.1 h1;have e2:=uB.1 h3;have hp:=(gY.1 hn).2;rcases Aw r r' with h|h|h
 ·have:=jO.1 hp r r' e1.1 e2.1 h;rw[e1.2,e2.2]at this;exact absurd rfl (this v (uA h2) v (uA h4))
 ·exact h
 ·have:=jO.1 hp r' r e2.1 e1.1 h;rw[e1.2,e2.2]at this;exact absurd rfl (this v (uA h4) v (uA h2))
theorem Zb2.ly {ls:List (List Int)}(hn:ls.flatten.Nodup){v:Int}{r p:Nat}(h:Zb2 ls v r p):Zbp (lyM ls) v=r:=by
 obtain⟨y,h1,h2⟩:=h;exact(Zln _ ls hn v ls.length (uH _)).1 r y (uB.1 h1).1 h1 (uA h2)
theorem Zb2.pl {ls:List (List Int)}(hn:ls.flatten.Nodup){v:Int}{r p:Nat}(h:Zb2 ls v r p):Zbp (plM ls) v=p:=by
 obtain⟨y,h1,h2⟩:=h;rw[plM,(Zln _ ls hn v ls.length (uH _)).1 r y (uB.1 h1).1 h1 (uA h2),Zb2.idx hn h1 h2]
theorem Zb2.lay {ls:List (List Int)}(hn:ls.flatten.Nodup){v:Int}{r p:Nat}(h:Zb2 ls v r p):ZaN ls v=r:=by
 have h0:=Zfl.2 h.mem;have hd:=h;obtain⟨y,h1,h2⟩:=h;rw[ZaN]at h0|-;cases hf:ls.findIdx? (λ y=>y.any λ x=>decide (x=v))with
 |none=>rw[hf]at h0;exact absurd h0 (by decide)
 |some k=>
  have hk:=List.findIdx?_eq_some_iff_getElem.1 hf;obtain⟨hk1,hk2,_⟩:=hk;obtain⟨x,hx,hxv⟩:=gO.1 hk2;have:x=v:=by simpa using hxv
  subst this;obtain⟨p',hp'⟩:=yW hx;have:=Zb2.layer hn hd (⟨ls[k],uL hk1,hp'⟩:Zb2 ls x k p');rw[this];rfl
structure Joins (ls:List (List Int))(x:Arc)(r p q:Nat):Prop where
 up:Zb2 ls x.1 r p
 dn:Zb2 ls x.2 (r+1) q
theorem ZeB {a:Lv}(h:Zay a=true):a.2.1.flatten.Nodup:=by
 obtain⟨_,_,hr⟩:=ZiV h;obtain⟨_,_,hg,_⟩:=Zj0 hr;exact(ZfP.1 hg).2
theorem ZmO {a:Lv}(h:Zay a=true){k:Nat}{x:Arc}(hx:a.2.2.1[k]? =some x):∃r p q,Joins a.2.1 x r p q:=by
 have hn:=ZeB h;obtain⟨b,hm,hr⟩:=ZiV h;obtain⟨_,_,hg,ho⟩:=Zj0 hr;have har:a.2.2.1=ZaO (Za0 a) (ZaU a).2 (ZaU a).2.length:=qW (λ x:Lv=>x.2.2.1) hm
 have hmem:∀m,m<=(ZaU a).2.length->∀x,x∈ZaO (Za0 a) (ZaU a).2 m->∃e c j,(ZaU a).2[e]? =some c/\j<ZaC (Za0 a) c+1/\x=ZfZ (ZaA (Za0 a) (Zaz (Za0 a) (ZaU a).2 e).length c) j:=by
  intro m
  induction m with
  |zero=>intro _ x hx;simp[ZaO,Zbm]at hx
  |succ m ih=>
   intro hm x hx;obtain⟨c,hc⟩:=Zad (l:=(ZaU a).2) (k:=m) (by omega);rw[Zr6 hc,yN]at hx;rcases hx with hx|hx
   ·exact ih (by omega) x hx
   ·simp only[ZbB,uN,yD]at hx;obtain⟨j,hj,rfl⟩:=hx;exact⟨m,c,j,hc,hj,rfl⟩
 obtain⟨e,c,j,hc,hj,rfl⟩:=hmem _ (uH _) x (har▸uA hx);obtain⟨x1,x2,x3⟩:=b.chain_at hc (j:=j) (by omega);obtain⟨y1,y2,y3⟩:=b.chain_at hc (j:=j+1) (by omega);rw[ZfZ];generalize at0 (ZaA (Za0 a) (Zaz (Za0 a) (ZaU a).2 e).length c) j=u at x1 x2 x3|-;generalize at0 (ZaA (Za0 a) (Zaz (Za0 a) (ZaU a).2 e).length c) ((j+1:Nat):Int)=v at y1 y2 y3|-;have hlay:∀u:Int,0<=u->u<(Zaz (Za0 a) (ZaU a).2 (ZaU a).2.length).length->ZaN a.2.1 u=at0 (Zaz (Za0 a) (ZaU a).2 (ZaU a).2.length) u:=by
  intro u h0 h1;have hl:(Zaz (Za0 a) (ZaU a).2 (ZaU a).2.length).length=tot a.2.1:=by rw[ho,Zex]
  obtain⟨n,rfl⟩:∃n:Nat,u=n:=⟨u.toNat,by omega⟩;have:=ZiO (c:=tot a.2.1) (v:=n) (by omega) a.2.1;rw[<-ho,ZaS (by omega),uZ]at this;exact this.symm
 have e1:=hlay u x1 x2;have e2:=hlay v y1 y2;have hrk:=b.rk c.1.toNat;have hin:=b.ends hc;rw[show((c.1.toNat:Nat):Int)=c.1 by omega]at hrk;obtain⟨r,p,hl1⟩:=Zo7 (Zfl.1 (show 0<=ZaN a.2.1 u by omega));obtain⟨r2,q,hl2⟩:=Zo7 (Zfl.1 (show 0<=ZaN a.2.1 v by omega));have e3:=hl1.lay hn;have e4:=hl2.lay hn;have:r2=r+1:=by omega
 subst this;exact⟨r,p,q,hl1,hl2⟩
def Zd4 (ls:List (List Int))(i f:Int)(p:Nat)(x:Arc):List Int:=
 if Zbp (lyM ls) x.1=i/\Zbp (lyM ls) x.2=f then(if Zbp (plM ls) x.1=p then[Zbp (plM ls) x.2]else[])
 else if Zbp (lyM ls) x.2=i/\Zbp (lyM ls) x.1=f then(if Zbp (plM ls) x.2=p then[Zbp (plM ls) x.1]else[])else[]
def Zdj (ls:List (List Int))(ar:List Arc)(i f:Int)(k p:Nat):List Int:=(ar.take k).flatMap (Zd4 ls i f p)
theorem Zoa {ls:List (List Int)}{ar:List Arc}{i f:Int}{k:Nat}{x:Arc}(hx:ar[k]? =some x)(p:Nat):Zdj ls ar i f (k+1) p=Zdj ls ar i f k p++Zd4 ls i f p x:=by
 simp[Zdj,ZaD hx]
theorem Ztx (ls:List (List Int))(i f:Int)(p:Nat)(x:Arc):(Zd4 ls i f p x).length<=1:=by
 unfold Zd4;split
 ·split<;>simp
 ·split
  ·split<;>simp
  ·simp
theorem Zhh (ls:List (List Int))(ar:List Arc)(i f:Int)(p:Nat):∀k,(Zdj ls ar i f k p).length<=k
 |0=>by simp[Zdj]
 |k+1=>by
  have ih:=Zhh ls ar i f p k;rcases uF k ar.length with h|h
  ·obtain⟨x,hx⟩:=Zad h;have:=Ztx ls i f p x;rw[Zoa hx,uC];omega
  ·rw[Zdj,uD (by omega)];rw[Zdj,uD (by omega)]at ih;omega
def Za6 (ls:List (List Int))(ar:List Arc)(i f:Int)(n:Nat):List (List Int):=(List.range n).map (Zdj ls ar i f ar.length)
theorem Zty (a:Lv)(i:Nat)(f:Int)(y:List Int)(h:Zay a=true)(hy:a.2.1[i]? =some y):Zaa Tryz.prog 221 [lvD a, .int i, .int f] (Zae (Za6 a.2.1 a.2.2.1 i f y.length)):=by
 have hn:=ZeB h;have hj:=λ k x hx=>ZmO h (k:=k) (x:=x) hx
 obtain⟨s1,s2,s3⟩:=Zhs h;obtain⟨t1,t2⟩:=Zcv h;have hp:=Zwn a (by omega) (λ y hy=>by have:=ZcV hy;omega);have hyl:=ZcV (uA hy);have hil:i<a.2.1.length:=(uB.1 hy).1;obtain⟨n,ls,ar,cs⟩:=a;dsimp only at*;obtain⟨N,hN⟩:∃N,N=y.length:=⟨_,rfl⟩;rw[<-hN]at hyl|-;refine kE Tryz.func221 ?_;intro hat B X w0;refine kw1 kO (kc2 hy hN.symm) (kc1 (kmc [(2000,914),(2001,915)] hp)) ?_;refine Zau _ (Zh6 1 23 1 N rfl (λ i hi=>by simp(disch:=omega) only[go_sem,simprocAttr,ZiA,ZdC]) (by decide) (by decide)) ?_;refine Zee (λ(k:Nat)=>k<=ar.length) (λ k=>[(1, .int i),(2, .int f),(3, .ptr 3 0 0 0),(7, .mp 914),(8, .mp 915),(9, .ref 23 1 0 N N),(25, .d (Zak ar)),(26, .int ar.length),(27, .int k)]) (λ k=>[⟨1,23,1,N,λ p=>(Zdj ls ar i f k p).map D.int⟩]) (λ k=>[(3, .cells [.int n, .d (Zae ls), .d (Zak ar), .d (Zae cs)]),(914, .imap (plM ls)),(915, .imap (lyM ls))]) (λ k=>ar.length-k) 0 ?_ ?_ ?_
 ·exact uJ _
 ·refine kF kc0 [] [] ?_;exact kT0 (kc3 @Zdj.eq_1 @yY.{0} @Ai.{0,0})
 ·intro k hk;rcases uF k ar.length with hlt|hge
  ·obtain⟨x,hx⟩:=Zad hlt;obtain⟨r,p,q,hup,hdn⟩:=hj k x hx;have l1:=hup.ly hn;have l2:=hdn.ly hn;have p1:=hup.pl hn;have p2:=hdn.pl hn;have hst:=Zoa (ls:=ls) (i:=i) (f:=f) hx;by_cases c1:r=i/\((r+1:Nat):Int)=f
   ·obtain⟨rfl,c2⟩:=c1;have hpN:p<N:=by
     obtain⟨z,z1,z2⟩:=hup;rw[hy]at z1;cases z1;rw[hN];exact(uB.1 z2).1
    have he:∀p',Zd4 ls r f p' x=if p'=p then[(q:Int)]else[]:=λ p'=>by
     rw[Zd4,l1,l2,p1,p2,if_pos ⟨rfl,c2⟩];by_cases c:p'=p
     ·rw[if_pos (by omega),if_pos c]
     ·rw[if_neg (by omega),if_neg c]
    have hel:=Zhh ls ar r f p k;refine Zau _ (ZeP _ _ [3,914,915,23] 23 p 900 1 1 N (by first|rfl|(simp(disch:=omega) only[go_sem,simprocAttr];done)|(simp(disch:=omega) only[go_sem,simprocAttr];rfl)) (by first|(simp(disch:=omega) only[go_sem,simprocAttr];done)|(simp(disch:=omega) only[go_sem,simprocAttr];rfl)) (by first|(simp(disch:=omega) only[go_sem,simprocAttr];done)|(simp(disch:=omega) only[go_sem,simprocAttr];rfl)) (λ i hi hne=>by simp(disch:=omega) only[go_sem,simprocAttr,hne];(repeat' split)<;>exact .ref _ _ _ _ _ ⟨by simp(disch:=omega) only[go_sem,simprocAttr,hne],by simp(disch:=omega) only[go_sem,simprocAttr,hne]⟩) (by(repeat' first|refine ZeG ?_|exact ZeH (ids:=[3,914,915,23]) rfl rfl (uU rfl)|refine ZeF ?_|refine ZeI ?_|refine ZeD ?_|refine ZeJ ?_|refine ZeK ?_|refine ZeE (by dsimp only;omega) (by dsimp only;omega) (by omega) (by omega) (uU rfl) ?_);done) rfl rfl rfl) ?_;refine kw1 kO (kc8 hx l1 l2 p1 p2 c2 @yI.{0} @Zat) kc0 ?_;refine⟨k+1,?_,kF kc0 [(fid 1 p,63)] [] ?_,?_⟩
    ·omega
    ·exact kT1 (kc8 hst he @yB.{0,0} @uC.{0} @uE.{0,0} @uV.{0} @uY.{0} (kc2 @yO.{0} @Zat)) p
    ·omega
   ·by_cases c2:r+1=i/\(r:Int)=f
    ·obtain⟨c2,c3⟩:=c2;have c4:¬(r:Int)=i:=by omega
     have c5:((r+1:Nat):Int)=i:=by omega
     have hqN:q<N:=by
      obtain⟨z,z1,z2⟩:=hdn;rw[c2,hy]at z1;cases z1;rw[hN];exact(uB.1 z2).1
     have he:∀p',Zd4 ls i f p' x=if p'=q then[(p:Int)]else[]:=λ p'=>by
      rw[Zd4,l1,l2,p1,p2,if_neg (λ h=>c4 h.1),if_pos ⟨c5,c3⟩];by_cases c:p'=q
      ·rw[if_pos (by omega),if_pos c]
      ·rw[if_neg (by omega),if_neg c]
     have hel:=Zhh ls ar i f q k;refine Zau _ (ZeP _ _ [3,914,915,23] 23 q 900 1 1 N (by first|rfl|(simp(disch:=omega) only[go_sem,simprocAttr];done)|(simp(disch:=omega) only[go_sem,simprocAttr];rfl)) (by first|(simp(disch:=omega) only[go_sem,simprocAttr];done)|(simp(disch:=omega) only[go_sem,simprocAttr];rfl)) (by first|(simp(disch:=omega) only[go_sem,simprocAttr];done)|(simp(disch:=omega) only[go_sem,simprocAttr];rfl)) (λ i hi hne=>by simp(disch:=omega) only[go_sem,simprocAttr,hne];(repeat' split)<;>exact .ref _ _ _ _ _ ⟨by simp(disch:=omega) only[go_sem,simprocAttr,hne],by simp(disch:=omega) only[go_sem,simprocAttr,hne]⟩) (by(repeat' first|refine ZeG ?_|exact ZeH (ids:=[3,914,915,23]) rfl rfl (uU rfl)|refine ZeF ?_|refine ZeI ?_|refine ZeD ?_|refine ZeJ ?_|refine ZeK ?_|refine ZeE (by dsimp only;omega) (by dsimp only;omega) (by omega) (by omega) (uU rfl) ?_);done) rfl rfl rfl) ?_;refine kw1 kO (kc8 hx l1 l2 p1 p2 c3 c4 (kc3 c5 @yI.{0} @Zat)) kc0 ?_;refine⟨k+1,?_,kF kc0 [(fid 1 q,97)] [] ?_,?_⟩
     ·omega
     ·exact kT1 (kc8 hst he @yB.{0,0} @uC.{0} @uE.{0,0} @uV.{0} @uY.{0} (kc2 @yO.{0} @Zat)) q
     ·omega
    ·have he:∀p',Zd4 ls i f p' x=[]:=λ p'=>by
      rw[Zd4,l1,l2,p1,p2,if_neg (λ h=>c1 ⟨by omega,h.2⟩),if_neg (λ h=>c2 ⟨by omega,h.2⟩)]
     by_cases d1:(r:Int)=i<;>by_cases d2:((r+1:Nat):Int)=f<;>by_cases d3:((r+1:Nat):Int)=i<;>by_cases d4:(r:Int)=f
     all_goals try (exfalso;omega)
     all_goals
      refine kw1 kO (kc8 hx l1 l2 p1 p2 d1 d2 (kc2 d3 d4)) kc0 ?_;refine⟨k+1,?_,kF kc0 [] [] ?_,?_⟩
      ·omega
      ·exact kT0 (kc3 hst he @yO.{0})
      ·omega
  ·have:k=ar.length:=by omega
   subst this
   try dsimp only
   refine Zau _ (Zh7 _ _ _ _ ⟨ZbH rfl,ZbH rfl,(by(repeat' first|exact fmn|refine fmc ⟨⟨uU rfl,uU rfl,by dsimp only;omega⟩,?_⟩);done)⟩ rfl [3,914,915,23] rfl rfl rfl rfl) ?_;refine kw1 kO kc0 kc0 ?_;refine Zda (o:=23) rfl rfl (by simp) ?_;rw[uD (by simp),Za6,gN];rfl
def Zb1 (q:List Int)(x:Int):Nat:=(q.filter λ y=>decide (y<x)).length
def Zcb :List Int->List Int->Nat
 |[],_=>0
 |x::p,q=>Zb1 q x+Zcb p q
theorem Zrh (q:List Int)(x:Int):Zb1 q x<=q.length:=jS _ _
theorem ZzC (q:List Int)(x y:Int):Zb1 (q++[y]) x=Zb1 q x+if y<x then 1 else 0:=by
 rw[Zb1,gX,uC,<-Zb1];by_cases h:y<x
 ·simp[h]
 ·simp[h]
theorem Zss (p q:List Int)(x:Int):Zcb (p++[x]) q=Zcb p q+Zb1 q x:=by
 induction p with
 |nil=>simp[Zcb]
 |cons y p ih=>simp only[jM,Zcb,ih];omega
theorem ZkI (p q:List Int):Zcb p q<=p.length*q.length:=by
 induction p with
 |nil=>simp[Zcb]
 |cons y p ih=>
  have:=Zrh q y;simp only[Zcb,uV,qE];omega
theorem Zst (p q:List Int)(hp:p.length<=1000)(hq:q.length<=1000):Zaa Tryz.prog 222 [Zac p,Zac q] (.int (Zcb p q)):=by
 have hb:∀k,Zcb (p.take k) q<=1000*1000:=λ k=>by
  refine gR (ZkI _ _) (zF ?_ hq);rw[uS];omega
 refine kE Tryz.func222 ?_;intro hat B X w0;refine kw1 kO kc0 kc0 ?_;refine Zai (λ(i:Nat)=>i<=p.length) (λ i=>[(1, .d (Zac q)),(5, .int (Zcb (p.take i) q)),(10, .d (Zac p)),(11, .int p.length),(12, .int i)]) (λ i=>[]) (λ i=>p.length-i) 0 ?_ ?_ ?_
 ·exact uJ _
 ·exact kN (kc2 @yY.{0} @Zcb.eq_1) []
 ·intro i hi;rcases uF i p.length with hlt|hge
  ·obtain⟨x,hx⟩:=Zad hlt;have e1:Zcb (p.take (i+1)) q=Zcb (p.take i) q+Zb1 q x:=by rw[ZaD hx,Zss]
   have hb1:=hb i;have hb2:=hb (i+1);refine kw1 kO (kc1 hx) kc0 ?_;refine Zai (λ(j:Nat)=>j<=q.length) (λ j=>[(1, .d (Zac q)),(5, .int (Zcb (p.take i) q+Zb1 (q.take j) x)),(7, .int x),(10, .d (Zac p)),(11, .int p.length),(12, .int i),(16, .d (Zac q)),(17, .int q.length),(18, .int j)]) (λ j=>[]) (λ j=>q.length-j) 0 ?_ ?_ ?_
   ·exact uJ _
   ·exact kN (kc5 @yY.{0} @Zb1.eq_1 @zK.{0} @uY.{0} @jU) []
   ·intro j hj;rcases uF j q.length with hlj|hgj
    ·obtain⟨y,hy⟩:=Zad hlj;have e2:Zb1 (q.take (j+1)) x=Zb1 (q.take j) x+if y<x then 1 else 0:=by rw[ZaD hy,ZzC]
     have hu:=Zrh (q.take j) x;rw[uS]at hu;by_cases c:y<x
     ·rw[if_pos c]at e2;refine kw1 kO (kc2 hy c) kc0 ?_;refine⟨j+1,?_,kN (kc4 e2 @qI @gP @zA) [],?_⟩
      ·omega
      ·omega
     ·rw[if_neg c]at e2;refine kw1 kO (kc2 hy c) kc0 ?_;refine⟨j+1,?_,kN (kc2 e2 @gH) [],?_⟩
      ·omega
      ·omega
    ·have:j=q.length:=by omega
     subst this
     try dsimp only
     rw[yI];refine kw1 kO kc0 kc0 ?_;refine⟨i+1,?_,kN (kc2 e1 @qI) [],?_⟩
     ·omega
     ·omega
  ·have:i=p.length:=by omega
   subst this
   try dsimp only
   rw[yI];refine kw1 kO kc0 kc0 ?_;exact Zah rfl
theorem Zh9 (a:Lv)(i:Int):Zaa Tryz.prog 217 [lvD a, .int i] (.bool (decide (0<=i/\i<a.2.1.length))):=by
 obtain⟨n,ls,ar,cs⟩:=a;refine kE Tryz.func217 ?_;intro hat B X w0;have hl:=Zb3 0 1 hat rfl rfl;rw[uE]at hl;dsimp only at hl;by_cases c:0<=i
 ·refine kw1 kO (kc1 c) kc0 ?_;refine Zaj ?_;simp[c]
 ·refine kw1 kO (kc1 c) kc0 ?_;refine Zaj ?_;simp[c]
def Zaq (l:List (List Int))(k:Nat):List Int:=(l[k]?).getD []
def Zdf (at_:List (List Int))(a b:Nat):Int:=if a=b then 0 else Zcb (Zaq at_ a) (Zaq at_ b)
def Zcw (at_:List (List Int)):List (List Int):=(List.range at_.length).map λ a=>(List.range at_.length).map λ b=>Zdf at_ a b
def Zeb (a:Lv)(i f:Int):Bool:=Zay a&&decide (0<=i/\i<a.2.1.length)&&decide (0<=f/\f<a.2.1.length)&&decide (f=i-1\/f=i+1)
def Zcg (a:Lv)(i:Int):Nat:=((a.2.1[i.toNat]?).getD []).length
def ZaQ (a:Lv)(i f:Int):List (List Int):=if Zeb a i f then Zcw (Za6 a.2.1 a.2.2.1 i f (Zcg a i))else[]
def Zc3 (at_:List (List Int))(a k:Nat):List Int:=Za7 (λ b=>Zdf at_ a b) at_.length k
theorem ZrB (a:Lv)(i f:Nat)(hw:wide a)(hv:Zay a=true)(hi:i<a.2.1.length)(hf:f<a.2.1.length)(hif:(f:Int)=i-1\/(f:Int)=i+1):
  Zaa Tryz.prog 177 [lvD a, .int i, .int f] (Zae (Zcw (Za6 a.2.1 a.2.2.1 i f (Zcg a i)))):=by
 have h1:=Zgt a hw;rw[hv]at h1;have h2:=Zh9 a i;have h3:=Zh9 a f;rw[yM (by omega)]at h2 h3;obtain⟨y,hy⟩:=Zad hi;have h4:=Zty a i f y hv hy;have hla:Zcg a i=y.length:=by rw[Zcg,uQ,hy];rfl
 rw[hla];obtain⟨t1,t2⟩:=Zcv hv;have hyl:=ZcV (uA hy);obtain⟨s1,_,_⟩:=Zhs hv;have hEl:(Za6 a.2.1 a.2.2.1 i f y.length).length=y.length:=by simp[Za6]
 have hEn:∀p∈Za6 a.2.1 a.2.2.1 i f y.length,p.length<=1000:=by
  intro p hp;simp only[Za6,uN,yD]at hp;obtain⟨k,_,rfl⟩:=hp;have:=Zhh a.2.1 a.2.2.1 i f k a.2.2.1.length;omega
 generalize Za6 a.2.1 a.2.2.1 i f y.length=E at*;obtain⟨N,hN⟩:∃N,N=E.length:=⟨_,rfl⟩;have hN5:N<=512:=by omega
 have hbh:∀(u v:Nat) p q,E[u]? =some p->E[v]? =some q->Zaa Tryz.prog 222 [Zac p,Zac q] (.int (Zcb p q)):=λ u v p q hu hv=>Zst p q (hEn p (uA hu)) (hEn q (uA hv))
 obtain⟨n,ls,ar,cs⟩:=a;dsimp only at*;refine kE Tryz.func177 ?_;intro hat B X w0;rcases hif with hif|hif
 all_goals
  refine kw1 kO (kc2 hif hN.symm) (kc4 h1 h2 h3 h4) ?_;refine Zau _ (Zh6 1 44 1 N rfl (λ i hi=>by simp(disch:=omega) only[go_sem,simprocAttr,ZiA,ZdC]) (by decide) (by decide)) ?_;refine Zee (λ(u:Nat)=>u<=N) (λ u=>[(3, .ptr 3 0 0 0),(7, .d (Zae E)),(8, .ref 44 1 0 N N),(46, .int N),(47, .int u)]) (λ u=>[⟨1,44,1,N,λ k=>if k<u then(Zc3 E k N).map D.int else[]⟩]) (λ u=>[(3, .cells [.int n, .d (Zae ls), .d (Zak ar), .d (Zae cs)])]) (λ u=>N-u) 0 ?_ ?_ ?_
  ·exact uJ _
  ·refine kF (kc1 hN.symm) [] [] ?_;exact kT0 (kc1 @zL)
  ·intro u hu;rcases uF u N with hlt|hge
   ·obtain⟨eu,heu⟩:=Zad (l:=E) (k:=u) (by omega);have hz:List.replicate N (D.int 0)=(Zc3 E u 0).map D.int:=by rw[Zc3,Zic,hN]
    have hnu:¬u<u:=by omega
    refine Zau _ (ZeP _ _ [3,44] 44 u 900 1 1 N (by first|rfl|(simp(disch:=omega) only[go_sem,simprocAttr,hnu];done)|(simp(disch:=omega) only[go_sem,simprocAttr,hnu];rfl)) (by first|(simp(disch:=omega) only[go_sem,simprocAttr,hnu];done)|(simp(disch:=omega) only[go_sem,simprocAttr,hnu];rfl)) (by first|(simp(disch:=omega) only[go_sem,simprocAttr,hnu];done)|(simp(disch:=omega) only[go_sem,simprocAttr,hnu];rfl)) (λ i hi hne=>by simp(disch:=omega) only[go_sem,simprocAttr,hne,hnu];(repeat' split)<;>exact .ref _ _ _ _ _ ⟨by simp(disch:=omega) only[go_sem,simprocAttr,hne,hnu],by simp(disch:=omega) only[go_sem,simprocAttr,hne,hnu]⟩) (by(repeat' first|refine ZeG ?_|exact ZeH (ids:=[3,44]) rfl rfl (uU rfl)|refine ZeF ?_|refine ZeI ?_|refine ZeD ?_|refine ZeJ ?_|refine ZeK ?_|refine ZeE (by dsimp only;omega) (by dsimp only;omega) (by omega) (by omega) (uU rfl) ?_);done) rfl rfl rfl) ?_;refine kw1 (kow (Nat.beq 54) (b:=true)) (kc2 hN.symm hnu) kc0 ?_;refine Zee (λ(b:Nat)=>b<=N) (λ b=>[(3, .ptr 3 0 0 0),(7, .d (Zae E)),(8, .ref 44 1 0 N N),(9, .int u),(46, .int N),(47, .int u),(57, .int N),(58, .int b)]) (λ b=>[⟨1,44,1,N,λ k=>if k<u then(Zc3 E k N).map D.int else if k=u then(Zc3 E u b).map D.int else[]⟩]) (λ b=>[(3, .cells [.int n, .d (Zae ls), .d (Zak ar), .d (Zae cs)])]) (λ b=>N-b) 0 ?_ ?_ ?_
    ·exact uJ _
    ·refine kF (kc1 hN.symm) [(fid 1 u,54)] [] ?_;exact kT1 (kc6 hz @Zdl @Zc3.eq_1 @uE.{0,0} hN.symm hnu) u
    ·intro b hb;have hfl:=Zdl (λ b=>Zdf E u b) E.length b;rw[<-hN]at hfl;rcases uF b N with hlb|hgb
     ·obtain⟨eb,heb⟩:=Zad (l:=E) (k:=b) (by omega);have hg:(Zc3 E u b)[b]? =some 0:=by rw[Zc3,ZeR (by omega),if_neg (by omega)]
      have hst:(Zc3 E u b).set b (Zdf E u b)=Zc3 E u (b+1):=Zib (g:=λ b=>Zdf E u b) (by omega);have hbe:=hbh u b eu eb heu heb;have hfl2:(Zc3 E u b).length=N:=by rw[Zc3,Zdl,hN]
      by_cases c:u=b
      ·have hcell:Zdf E u b=0:=by rw[Zdf,if_pos c]
       have hst2:Zc3 E u (b+1)=Zc3 E u b:=by
        rw[<-hst,hcell];refine qL λ v=>?_
        rw[qD];split
        ·rename_i hv2;subst hv2;rw[hg,if_pos (by omega)]
        ·rfl
       have cI:(u:Int)=b:=by omega
       refine kw1 kO (kc2 hN.symm cI) kc0 ?_;refine⟨b+1,?_,kF kc0 [] [] ?_,?_⟩
       ·omega
       ·exact kT1 (kc2 hst2 hnu) u
       ·omega
      ·have hcell:Zdf E u b=Zcb eu eb:=by rw[Zdf,if_neg c,Zaq,Zaq,heu,heb];rfl
       have cI:¬(u:Int)=b:=by omega
       rw[hcell]at hst;refine Zau _ (ZeP _ _ [3,44] 44 u 900 1 1 N (by first|rfl|(simp(disch:=omega) only[go_sem,simprocAttr,hnu,hfl2];done)|(simp(disch:=omega) only[go_sem,simprocAttr,hnu,hfl2];rfl)) (by first|(simp(disch:=omega) only[go_sem,simprocAttr,hnu,hfl2];done)|(simp(disch:=omega) only[go_sem,simprocAttr,hnu,hfl2];rfl)) (by first|(simp(disch:=omega) only[go_sem,simprocAttr,hnu,hfl2];done)|(simp(disch:=omega) only[go_sem,simprocAttr,hnu,hfl2];rfl)) (λ i hi hne=>by simp(disch:=omega) only[go_sem,simprocAttr,hne,hnu,hfl2];(repeat' split)<;>exact .ref _ _ _ _ _ ⟨by simp(disch:=omega) only[go_sem,simprocAttr,hne,hnu,hfl2],by simp(disch:=omega) only[go_sem,simprocAttr,hne,hnu,hfl2]⟩) (by(repeat' first|refine ZeG ?_|exact ZeH (ids:=[3,44]) rfl rfl (uU rfl)|refine ZeF ?_|refine ZeI ?_|refine ZeD ?_|refine ZeJ ?_|refine ZeK ?_|refine ZeE (by dsimp only;omega) (by dsimp only;omega) (by omega) (by omega) (uU rfl) ?_);done) rfl rfl rfl) ?_;refine kw1 kO (kc7 hN.symm cI heu heb hg hfl2 hnu) (kc1 hbe) ?_;refine⟨b+1,?_,kF kc0 [(fid 1 u,900)] [] ?_,?_⟩
       ·omega
       ·exact kT1 (kc6 @hst.symm @yR.{0,0} @yL.{0} @uE.{0,0} hfl2 hnu) u
       ·omega
     ·have:b=N:=by omega
      subst this;have hsu:∀i,i≠u->((i<u+1)=(i<u)):=λ i h=>propext (by omega)
      refine kw1 kO kc0 kc0 ?_;refine⟨u+1,?_,kF kc0 [] [] ?_,?_⟩
      ·omega
      ·exact kT1 (kc3 hnu hsu @Cm) u
      ·omega
   ·have:u=N:=by omega
    subst this
    try dsimp only
    refine Zau _ (Zh7 _ _ _ _ ⟨ZbH rfl,ZbH rfl,(by(repeat' first|exact fmn|refine fmc ⟨⟨uU rfl,uU rfl,by dsimp only;omega⟩,?_⟩);done)⟩ rfl [3,44] rfl rfl rfl rfl) ?_;refine kw1 kO kc0 kc0 ?_;refine Zda (o:=44) rfl rfl (by simp) ?_;rw[uD (by simp),Zcw,<-hN,gN];refine yE λ k hk=>?_
    rw[if_pos (yD.1 hk),Zc3,<-hN,Zia];rfl
theorem ZrC (a:Lv)(i f:Int)(hw:wide a)(hm:Zeb a i f=false):Zaa Tryz.prog 177 [lvD a, .int i, .int f] (Zae []):=by
 have h1:=Zgt a hw;have h2:=Zh9 a i;have h3:=Zh9 a f;rw[Zeb]at hm;rcases c1:Zay a with _|_<;>rw[c1]at h1 hm
 ·refine kE Tryz.func177 ?_;intro hat B X w0;refine kw1 kO kc0 (kc1 h1) ?_;exact ZcS rfl
 ·by_cases c2:0<=i/\i<a.2.1.length
  ·rw[yM c2]at h2 hm;by_cases c3:0<=f/\f<a.2.1.length
   ·rw[yM c3]at h3 hm;have c4:¬(f=i-1\/f=i+1):=by simpa using hm
    have d1:¬f=i-1:=λ h=>c4 (.inl h)
    have d2:¬f=i+1:=λ h=>c4 (.inr h)
    obtain⟨t1,t2⟩:=Zcv c1;refine kE Tryz.func177 ?_;intro hat B X w0;refine kw1 kO (kc2 d1 d2) (kc3 h1 h2 h3) ?_;exact ZcS rfl
   ·rw[yC c3]at h3;refine kE Tryz.func177 ?_;intro hat B X w0;refine kw1 kO kc0 (kc3 h1 h2 h3) ?_;exact ZcS rfl
  ·rw[yC c2]at h2;refine kE Tryz.func177 ?_;intro hat B X w0;refine kw1 kO kc0 (kc3 h1 h2 h3) ?_;exact ZcS rfl
theorem Zm3 (a:Lv)(i f:Int)(hw:wide a):Zaa Tryz.prog 177 [lvD a, .int i, .int f] (Zae (ZaQ a i f)):=by
 rcases h:Zeb a i f with _|_
 ·rw[ZaQ,h,if_neg (by decide)];exact ZrC a i f hw h
 ·have e:ZaQ a i f=Zcw (Za6 a.2.1 a.2.2.1 i f (Zcg a i)):=by rw[ZaQ,h,if_pos rfl]
  rw[e];simp only[Zeb,uO,uG]at h;obtain⟨⟨⟨h1,h2⟩,h3⟩,h4⟩:=h;obtain⟨i,rfl⟩:∃n:Nat,i=n:=⟨i.toNat,by omega⟩;obtain⟨f,rfl⟩:∃n:Nat,f=n:=⟨f.toNat,by omega⟩;exact ZrB a i f hw h1 (by omega) (by omega) h4
def ZaE (f:Nat->Int):Nat->Int
 |0=>0
 |k+1=>ZaE f k+f k
theorem ZiU {f:Nat->Int}{c:Nat}:∀n,(∀k,k<n->0<=f k/\f k<=c)->0<=ZaE f n/\ZaE f n<=((n*c:Nat):Int)
 |0,_=>by simp[ZaE]
 |n+1,h=>by
  have ih:=ZiU n λ k hk=>h k (by omega)
  have:=h n (by omega);rw[ZaE,qE];omega
theorem ZmD {f g:Nat->Int}:∀n,(∀k,k<n->f k=g k)->ZaE f n=ZaE g n
 |0,_=>rfl
 |n+1,h=>by rw[ZaE,ZaE,ZmD n λ k hk=>h k (by omega),h n (by omega)]
def Zag (m:List (List Int))(b a:Nat):Int:=at0 (Zaq m b) a
def ZmK (m:List (List Int)):Int:=ZaE (λ a=>ZaE (λ b=>Zag m b a) a) m.length
structure Sq (m:List (List Int)):Prop where
 len:m.length<=600
 row:∀p,p∈m->p.length=m.length
 val:∀p,p∈m->∀x,x∈p->0<=x/\x<=1000000
theorem Sq.get {m:List (List Int)}(h:Sq m){b a:Nat}(hb:b<m.length)(ha:a<m.length):∃p,m[b]? =some p/\p.length=m.length/\p[a]? =some (Zag m b a)/\0<=Zag m b a/\Zag m b a<=1000000:=by
 obtain⟨p,hp⟩:=Zad hb;have hl:=h.row p (uA hp);have hg:=ZaS (r:=p) (i:=a) (by omega);have e:Zag m b a=at0 p a:=by rw[Zag,Zaq,hp];rfl
 rw[<-e]at hg;exact⟨p,hp,hl,hg,h.val p (uA hp) _ (uA hg)⟩
theorem Sq.nil :Sq []:=⟨by simp,by simp,by simp⟩
theorem Zi0 (a:Lv)(i f:Int):Sq (ZaQ a i f):=by
 rw[ZaQ];split
 ·rename_i h;simp only[Zeb,uO,uG]at h;obtain⟨⟨⟨h1,h2⟩,h3⟩,h4⟩:=h;obtain⟨t1,t2⟩:=Zcv h1;obtain⟨s1,_,_⟩:=Zhs h1;obtain⟨y,hy⟩:=Zad (l:=a.2.1) (k:=i.toNat) (by omega);have hyl:=ZcV (uA hy);have hla:Zcg a i=y.length:=by rw[Zcg,hy];rfl
  have hEn:∀k,(Zaq (Za6 a.2.1 a.2.2.1 i f (Zcg a i)) k).length<=1000:=by
   intro k;rw[Zaq];cases hk:(Za6 a.2.1 a.2.2.1 i f (Zcg a i))[k]? with
   |none=>simp
   |some p=>
    have hp:=uA hk;simp only[Za6,uN,yD]at hp;obtain⟨k,_,rfl⟩:=hp;have:=Zhh a.2.1 a.2.2.1 i f k a.2.2.1.length;simp only[yQ];omega
  have hEl:(Za6 a.2.1 a.2.2.1 i f (Zcg a i)).length=y.length:=by simp[Za6,hla]
  generalize Za6 a.2.1 a.2.2.1 i f (Zcg a i)=E at*;refine⟨by simp[Zcw,hEl];omega,λ p hp=>?_,λ p hp x hx=>?_⟩
  ·simp only[Zcw,uN,yD]at hp;obtain⟨k,_,rfl⟩:=hp;simp[Zcw]
  ·simp only[Zcw,uN,yD]at hp;obtain⟨k,_,rfl⟩:=hp;obtain⟨j,_,rfl⟩:=uN.1 hx;rw[Zdf];split
   ·omega
   ·have h1:=ZkI (Zaq E k) (Zaq E j);have h2:(Zaq E k).length*(Zaq E j).length<=1000*1000:=zF (hEn k) (hEn j);omega
 ·exact Sq.nil
def ZjO (a:Lv)(i:Int):Bool:=decide (¬(0<=i/\i<a.2.1.length)\/i=(a.2.1.length:Int)-1)
def ZbP (a:Lv)(i:Int):Int:=if ZjO a i then 0 else ZmK (ZaQ a i (i+1))
theorem Zrf {m:List (List Int)}(h:Sq m){x:Nat}(hx:x<m.length):∀k,k<=x->0<=ZaE (λ b=>Zag m b x) k/\ZaE (λ b=>Zag m b x) k<=600*1000000:=λ k hk=>by
 have:=ZiU (f:=λ b=>Zag m b x) (c:=1000000) k λ b hb=>by obtain⟨_,_,_,_,h5⟩:=h.get (b:=b) (a:=x) (by omega) hx;exact h5
 have:=h.len;have h2:k*1000000<=600*1000000:=yF _ (by omega);omega
theorem ZmL {m:List (List Int)}(h:Sq m):∀k,k<=m.length->0<=ZaE (λ x=>ZaE (λ b=>Zag m b x) x) k/\ZaE (λ x=>ZaE (λ b=>Zag m b x) x) k<=600*600000000:=λ k hk=>by
 have:=ZiU (f:=λ x=>ZaE (λ b=>Zag m b x) x) (c:=600000000) k λ x hx=>by have:=Zrf h (x:=x) (by omega) x (uH _);omega
 have:=h.len;have h2:k*600000000<=600*600000000:=yF _ (by omega);omega
theorem Zru (a:Lv)(i:Int)(hw:wide a):Zaa Tryz.prog 169 [lvD a, .int i] (.int (ZbP a i)):=by
 have h2:=Zh9 a i;have h3:=Zm3 a i (i+1) hw;rw[ZbP,ZjO];by_cases c1:0<=i/\i<a.2.1.length
 ·rw[yM c1]at h2;by_cases c2:i=(a.2.1.length:Int)-1
  ·rw[if_pos (by simp[c2])];obtain⟨n,ls,ar,cs⟩:=a;dsimp only at c1 c2;refine kE Tryz.func169 ?_;intro hat B X w0;have hl:=Zb3 0 1 hat rfl rfl;rw[uE]at hl;dsimp only at hl;refine kw1 kO (kc1 c2.symm) (kc1 h2) ?_;exact Zah rfl
  ·rw[if_neg (by simp;omega)];have hs:=Zi0 a i (i+1);generalize ZaQ a i (i+1)=m at h3 hs|-;have hml:=hs.len;obtain⟨n,ls,ar,cs⟩:=a;dsimp only at c1 c2;refine kE Tryz.func169 ?_;intro hat B X w0;have hl:=Zb3 0 1 hat rfl rfl;rw[uE]at hl;dsimp only at hl;refine kw1 kO (kc1 c2) (kc2 h2 h3) ?_;refine Zai (λ(x:Nat)=>x<=m.length) (λ x=>[(5, .int (ZaE (λ x=>ZaE (λ b=>Zag m b x) x) x)),(6, .d (Zae m)),(27, .int m.length),(28, .int x)]) (λ x=>[]) (λ x=>m.length-x) 0 ?_ ?_ ?_
   ·exact uJ _
   ·exact kN (kc1 @ZaE.eq_1) []
   ·intro x hx;rcases uF x m.length with hlt|hge
    ·have ho:=ZmL hs x (by omega);have ho2:=ZmL hs (x+1) (by omega);have e1:ZaE (λ x=>ZaE (λ b=>Zag m b x) x) (x+1)=ZaE (λ x=>ZaE (λ b=>Zag m b x) x) x+ZaE (λ b=>Zag m b x) x:=rfl;obtain⟨s0,e0⟩:∃s0,ZaE (λ x=>ZaE (λ b=>Zag m b x) x) x=s0:=⟨_,rfl⟩;rw[e0]at ho e1;rw[e1]at ho2;refine kw1 kO kc0 kc0 ?_;refine Zai (λ(y:Nat)=>y<=x) (λ y=>[(5, .int (s0+ZaE (λ b=>Zag m b x) y)),(6, .d (Zae m)),(7, .int x),(27, .int m.length),(28, .int x),(31, .int x),(32, .int y)]) (λ y=>[]) (λ y=>x-y) 0 ?_ ?_ ?_
     ·exact uJ _
     ·exact kN (kc3 e0 @ZaE.eq_1 @jU) []
     ·intro y hy;rcases uF y x with hly|hgy
      ·obtain⟨p,hp,hpl,hpg,hp1,hp2⟩:=hs.get (b:=y) (a:=x) (by omega) hlt;have hi:=Zrf hs hlt y (by omega);have e2:ZaE (λ b=>Zag m b x) (y+1)=ZaE (λ b=>Zag m b x) y+Zag m y x:=rfl;refine kw1 kO (kc3 hp hpg hpl) kc0 ?_;refine⟨y+1,?_,kN (kc2 e2 @zA) [],?_⟩
       ·omega
       ·omega
      ·have:y=x:=by omega
       subst this;refine kw1 kO kc0 kc0 ?_;refine⟨y+1,?_,kN (kc1 e1) [],?_⟩
       ·omega
       ·omega
    ·have:x=m.length:=by omega
     subst this;refine kw1 kO kc0 kc0 ?_;exact Zah rfl
 ·rw[yC c1]at h2;rw[if_pos (by simp only[uG];exact .inl c1)];refine kE Tryz.func169 ?_;intro hat B X w0;refine kw1 kO kc0 (kc1 h2) ?_;exact Zah rfl
def Za2 (a:Lv):Int:=ZaE (λ i=>ZbP a i) a.2.1.length
theorem ZmZ (a:Lv)(i:Int):0<=ZbP a i/\ZbP a i<=360000000000:=by
 rw[ZbP];split
 ·omega
 ·have hs:=Zi0 a i (i+1);have:=ZmL hs _ (uH _);rw[ZmK];omega
theorem Znb (a:Lv)(hw:wide a)(hl:a.2.1.length<=1000):Zaa Tryz.prog 105 [lvD a] (.int (Za2 a)):=by
 have hb:=λ i=>Zru a i hw
 have hbl:=ZmZ a;have hs:∀k,k<=a.2.1.length->0<=ZaE (λ i=>ZbP a i) k/\ZaE (λ i=>ZbP a i) k<=1000*360000000000:=λ k hk=>by
  have:=ZiU (f:=λ i=>ZbP a i) (c:=360000000000) k λ i _=>hbl i
  have h2:k*360000000000<=1000*360000000000:=yF _ (by omega);omega
 rw[Za2];generalize hB:(λ i:Nat=>ZbP a i)=Bf at hs|-;have hb2:∀i:Nat,Zaa Tryz.prog 169 [lvD a, .int i] (.int (Bf i)):=λ i=>by rw[<-hB];exact hb i
 obtain⟨n,ls,ar,cs⟩:=a;dsimp only at*;refine kE Tryz.func105 ?_;intro hat B X w0;refine kw1 kO kc0 kc0 ?_;refine Zai (λ(i:Nat)=>i<=ls.length) (λ i=>[(1, .ptr 1 0 0 0),(3, .int (ZaE Bf i)),(7, .int ls.length),(8, .int i)]) (λ i=>[(1, .cells [.int n, .d (Zae ls), .d (Zak ar), .d (Zae cs)])]) (λ i=>ls.length-i) 0 ?_ ?_ ?_
 ·exact uJ _
 ·exact kN (kc1 @ZaE.eq_1) []
 ·intro i hi;rcases uF i ls.length with hlt|hge
  ·have h1:=hs i hi;have h2:=hs (i+1) (by omega);have e1:ZaE Bf (i+1)=ZaE Bf i+Bf i:=rfl;have hbi:=hb2 i;refine kw1 kO kc0 (kc1 hbi) ?_;refine⟨i+1,?_,kN (kc1 e1) [],?_⟩
   ·omega
   ·omega
  ·have:i=ls.length:=by omega
   subst this;refine kw1 kO kc0 kc0 ?_;exact Zah rfl
def Zfq (y z:List Int)(x:Arc):List (Int×Int):=if 0<=placeF y x.1/\0<=placeF z x.2 then[(placeF y x.1,placeF z x.2)]else[]
def Zbq (y z:List Int)(ar:List Arc):List (Int×Int):=ar.flatMap (Zfq y z)
def ZjI (c:List Int):Bool:=decide (60<c.length)
def Zfg (a:Lv):Bool:=decide (a.2.1.length<=60/\a.2.2.1.length<=90/\a.2.2.2.length<=90)&& !a.2.1.any ZjI&& !a.2.2.2.any ZjI
theorem Zon {a:Lv}(h:Zfg a=true):a.2.1.length<=60/\a.2.2.1.length<=90/\a.2.2.2.length<=90/\(∀y,y∈a.2.1->y.length<=60)/\∀y,y∈a.2.2.2->y.length<=60:=by
 simp only[Zfg,uO,uG,yK,qU]at h;obtain⟨⟨⟨h1,h2,h3⟩,h4⟩,h5⟩:=h;refine⟨h1,h2,h3,λ y hy=>?_,λ y hy=>?_⟩
 ·have:=h4 y hy;simp only[ZjI,uG]at this;omega
 ·have:=h5 y hy;simp only[ZjI,uG]at this;omega
end Go.Proofs.YtjjbhjnpeenbkaaGreatDoor
namespace Go.Proofs.YtjjbhjnpeenbkaaGreatDoor
open Go Go.PS Go.Proofs
abbrev Pr :=Int×Int
def w1 (f:Pr->Int):List Pr->Int
 |[]=>0
 |y::F=>f y+w1 f F
def W (f:Pr->Pr->Int)(F:List Pr):List Pr->Int
 |[]=>0
 |x::E=>w1 (f x) F+W f F E
theorem Zkl {f g:Pr->Int}:∀{F:List Pr},(∀y,y∈F->f y=g y)->w1 f F=w1 g F
 |[],_=>rfl
 |y::F,h=>by rw[w1,w1,h y (by simp),Zkl λ z hz=>h z (uM _ hz)]
theorem ZhU {f g:Pr->Pr->Int}{F:List Pr}:∀{E:List Pr},(∀x,x∈E->∀y,y∈F->f x y=g x y)->W f F E=W g F E
 |[],_=>rfl
 |x::E,h=>by rw[W,W,Zkl (h x (by simp)),ZhU λ z hz=>h z (uM _ hz)]
theorem Zrn (f g:Pr->Int):∀F:List Pr,w1 (λ y=>f y+g y) F=w1 f F+w1 g F
 |[]=>rfl
 |y::F=>by rw[w1,w1,w1,Zrn f g F];omega
theorem Znc (f g:Pr->Pr->Int)(F:List Pr):∀E:List Pr,W (λ x y=>f x y+g x y) F E=W f F E+W g F E
 |[]=>rfl
 |x::E=>by rw[W,W,W,Zrn,Znc f g F E];omega
theorem ZmQ :∀F:List Pr,w1 (λ _=>0) F=0
 |[]=>rfl
 |y::F=>by rw[w1,ZmQ F];rfl
theorem Znh (F:List Pr):∀E:List Pr,W (λ _ _=>0) F E=0
 |[]=>rfl
 |x::E=>by rw[W,ZmQ,Znh F E];rfl
theorem Znf (f:Nat->Pr->Pr->Int)(F E:List Pr):∀n,ZaE (λ k=>W (f k) F E) n=W (λ x y=>ZaE (λ k=>f k x y) n) F E
 |0=>by simp only[ZaE];rw[Znh]
 |n+1=>by simp only[ZaE];rw[Znf f F E n,Znc]
theorem Zne (f:Pr->Pr->Int):∀E:List Pr,W f [] E=0
 |[]=>rfl
 |x::E=>by rw[W,Zne f E];rfl
theorem Znd (f:Pr->Pr->Int)(y:Pr)(F:List Pr):∀E:List Pr,W f (y::F) E=w1 (λ x=>f x y) E+W f F E
 |[]=>rfl
 |x::E=>by rw[W,W,w1,w1,Znd f y F E];omega
theorem Zng (f:Pr->Pr->Int):∀F E:List Pr,W f F E=W (λ x y=>f y x) E F
 |[],E=>by rw[Zne,W]
 |y::F,E=>by rw[Znd,W,Zng f F E]
theorem Zro (g:Pr->Pr)(f:Pr->Int):∀F:List Pr,w1 f (F.map g)=w1 (λ y=>f (g y)) F
 |[]=>rfl
 |y::F=>by rw[uX,w1,w1,Zro g f F]
theorem Zky (g:Pr->Pr)(f:Pr->Pr->Int)(F:List Pr):∀E:List Pr,W f (F.map g) (E.map g)=W (λ x y=>f (g x) (g y)) F E
 |[]=>rfl
 |x::E=>by rw[uX,W,W,Zro,Zky g f F E]
def ind (p:Prop)[Decidable p]:Int:=if p then 1 else 0
theorem Zri (x:Int)(p:Pr->Bool)(g:Pr->Int):∀F:List Pr,((Zb1 ((F.filter p).map g) x:Nat):Int)=w1 (λ y=>ind (p y=true/\g y<x)) F
 |[]=>rfl
 |y::F=>by
  have ih:=Zri x p g F;rw[w1,<-ih];by_cases hp:p y=true
  ·rw[List.filter_cons_of_pos hp,uX,Zb1,Zb1,zB];by_cases hg:g y<x
   ·simp[ind,hp,hg];omega
   ·simp[ind,hp,hg]
  ·rw[List.filter_cons_of_neg hp];simp[ind,hp]
theorem ZkJ (p q:Pr->Bool)(g:Pr->Int)(F:List Pr):∀E:List Pr,((Zcb ((E.filter p).map g) ((F.filter q).map g):Nat):Int)=W (λ x y=>ind (p x=true/\q y=true/\g y<g x)) F E
 |[]=>rfl
 |x::E=>by
  have ih:=ZkJ p q g F E;rw[W,<-ih];by_cases hp:p x=true
  ·rw[List.filter_cons_of_pos hp,uX,Zcb,qI,Zri]
   congr 1
   refine Zkl λ y _=>?_
   simp[ind,hp]
  ·rw[List.filter_cons_of_neg hp];have:w1 (λ y=>ind (p x=true/\q y=true/\g y<g x)) F=0:=by
    rw[<-ZmQ F];refine Zkl λ y _=>?_
    simp[ind,hp]
   rw[this];omega
theorem ZmF (u:Int)(g:Nat->Int):∀n:Nat,(∀k:Nat,(k:Int)≠u->g k=0)->ZaE g n=if 0<=u/\u<n then g u.toNat else 0
 |0,_=>by rw[ZaE,if_neg (by omega)]
 |n+1,h=>by
  rw[ZaE,ZmF u g n h];by_cases c:(n:Int)=u
  ·subst c;rw[if_neg (by omega),if_pos (by omega),uQ];omega
  ·rw[h n c];by_cases c2:0<=u/\u<n
   ·rw[if_pos c2,if_pos (by omega)];omega
   ·rw[if_neg c2,if_neg (by omega)];rfl
theorem Zhy {y:List Int}(hn:y.Nodup){v:Int}{p:Nat}(h:y[p]? =some v):placeF y v=p:=by
 have hi:=Zih hn h;rw[placeF];cases hf:y.findIdx? (λ x=>decide (x=v))with
 |none=>
  have:=List.findIdx?_eq_none_iff.1 hf v (uA h);simp at this
 |some k=>
  obtain⟨hk,hk2,_⟩:=List.findIdx?_eq_some_iff_getElem.1 hf;have hv:y[k]=v:=by simpa using hk2
  have:=Zih hn (k:=k) (v:=v) (by rw[uL hk,hv]);rw[ZcD];omega
theorem ZiH {y:List Int}{v:Int}(h:v∉y):placeF y v=-1:=by
 rw[placeF,ZeS]
 ·rfl
 ·intro j z hz;simp only[qJ];rintro rfl;exact h (uA hz)
theorem Zb2.placeF {ls:List (List Int)}(hn:ls.flatten.Nodup){v:Int}{r p i:Nat}{y:List Int}(h:Zb2 ls v r p)(hy:ls[i]? =some y):Go.Proofs.YtjjbhjnpeenbkaaGreatDoor.placeF y v=if r=i then(p:Int)else -1:=by
 by_cases c:r=i
 ·subst c;rw[if_pos rfl];obtain⟨z,h1,h2⟩:=h;rw[hy]at h1;cases h1;exact Zhy ((gY.1 hn).1 y (uA hy)) h2
 ·rw[if_neg c];refine ZiH λ hv=>?_
  obtain⟨q,hq⟩:=yW hv;exact c (h.layer hn ⟨y,hy,hq⟩)
theorem ZlZ {ls:List (List Int)}(hn:ls.flatten.Nodup){x:Arc}{r p q i:Nat}{y z:List Int}(h:Joins ls x r p q)(hy:ls[i]? =some y)(hz:ls[i+1]? =some z):Zfq y z x=if r=i then[((p:Int),(q:Int))]else[]:=by
 rw[Zfq,h.up.placeF hn hy,h.dn.placeF hn hz];by_cases c:r=i
 ·simp[c]
 ·simp[c]
theorem Joins.lt {ls:List (List Int)}{x:Arc}{r p q:Nat}(h:Joins ls x r p q){y z:List Int}(hy:ls[r]? =some y)(hz:ls[r+1]? =some z):p<y.length/\q<z.length:=by
 obtain⟨⟨u,h1,h2⟩,⟨v,h3,h4⟩⟩:=h;rw[hy]at h1;cases h1;rw[hz]at h3;cases h3;exact⟨(uB.1 h2).1,(uB.1 h4).1⟩
section valid
variable {ls:List (List Int)}{ar:List Arc}(hn:ls.flatten.Nodup)(hj:∀x,x∈ar->∃r p q,Joins ls x r p q){i:Nat}{y z:List Int}(hy:ls[i]? =some y)(hz:ls[i+1]? =some z)
include hn hj hy hz
theorem Zwc :∀e,e∈Zbq y z ar->0<=e.1/\e.1<y.length/\0<=e.2/\e.2<z.length:=by
 intro e he;obtain⟨x,hx,he⟩:=kJ.1 he;obtain⟨r,p,q,h⟩:=hj x hx;rw[ZlZ hn h hy hz]at he;split at he
 ·rename_i c;subst c;have:=h.lt hy hz;rw[uR]at he;subst he;dsimp only;omega
 ·cases he
theorem Zob (p':Nat):Zdj ls ar i ((i:Int)+1) ar.length p'=((Zbq y z ar).filter λ e:Pr=>decide (e.1=(p':Int))).map (·.2):=by
 rw[Zdj,yI]
 induction ar with
 |nil=>rfl
 |cons x ar ih=>
  obtain⟨r,p,q,h⟩:=hj x (by simp);rw[gE,ih (λ w hw=>hj w (uM _ hw))];have e:Zbq y z (x::ar)=Zfq y z x++Zbq y z ar:=by simp[Zbq]
  rw[e,gX,yB]
  congr 1
  rw[ZlZ hn h hy hz,Zd4,h.up.ly hn,h.dn.ly hn,h.up.pl hn,h.dn.pl hn];by_cases c:r=i
  ·subst c;rw[if_pos ⟨rfl,by omega⟩,if_pos rfl];by_cases c2:(p:Int)=p'
   ·simp[c2]
   ·simp[c2]
  ·rw[if_neg (by omega),if_neg (by omega),if_neg c];rfl
theorem Zoc (q':Nat):Zdj ls ar ((i+1:Nat):Int) i ar.length q'=((Zbq y z ar).filter λ e:Pr=>decide (e.2=(q':Int))).map (·.1):=by
 rw[Zdj,yI]
 induction ar with
 |nil=>rfl
 |cons x ar ih=>
  obtain⟨r,p,q,h⟩:=hj x (by simp);rw[gE,ih (λ w hw=>hj w (uM _ hw))];have e:Zbq y z (x::ar)=Zfq y z x++Zbq y z ar:=by simp[Zbq]
  rw[e,gX,yB]
  congr 1
  rw[ZlZ hn h hy hz,Zd4,h.up.ly hn,h.dn.ly hn,h.up.pl hn,h.dn.pl hn];by_cases c:r=i
  ·subst c;rw[if_neg (by omega),if_pos ⟨by omega,rfl⟩,if_pos rfl];by_cases c2:(q:Int)=q'
   ·simp[c2]
   ·simp[c2]
  ·rw[if_neg (by omega),if_neg (by omega),if_neg c];rfl
end valid
end Go.Proofs.YtjjbhjnpeenbkaaGreatDoor
namespace Go.Proofs.YtjjbhjnpeenbkaaGreatDoor
open Go Go.PS Go.Proofs
theorem ZgJ {p:Prop}[Decidable p](h:¬p):ind p=0:=by simp[ind,h]
theorem ZoJ {p:Prop}[Decidable p](h:p):ind p=1:=by simp[ind,h]
theorem Zhm {p q:Prop}[Decidable p][Decidable q](h:p↔q):ind p=ind q:=by
 by_cases hp:p
 ·rw[ZoJ hp,ZoJ (h.1 hp)]
 ·rw[ZgJ hp,ZgJ λ hq=>hp (h.2 hq)]
theorem Zzq (own other:Pr->Int)(P:List Pr)(n:Nat)(hin:∀e,e∈P->0<=own e/\own e<n):
  ZaE (λ A=>ZaE (λ B=>W (λ x y=>ind (own x=(B:Int)/\own y=(A:Int)/\other y<other x)) P P) A) n=W (λ x y=>ind (own x<own y/\other y<other x)) P P:=by
 simp only[Znf];refine ZhU λ x hx y hy=>?_
 have h1:=hin x hx;have h2:=hin y hy;have hA:∀A:Nat,ZaE (λ B:Nat=>ind (own x=(B:Int)/\own y=(A:Int)/\other y<other x)) A=ind (own x<A/\own y=(A:Int)/\other y<other x):=λ A=>by
  rw[ZmF (own x) _ A λ k hk=>ZgJ λ h=>hk h.1.symm];by_cases c:own x<A
  ·rw[if_pos ⟨h1.1,c⟩];refine Zhm ?_;constructor
   ·rintro⟨_,h⟩;exact⟨c,h⟩
   ·rintro⟨_,h⟩;exact⟨by omega,h⟩
  ·rw[if_neg (λ h=>c h.2),ZgJ λ h=>c h.1]
 simp only[hA];rw[ZmF (own y) _ n λ k hk=>ZgJ λ h=>hk h.2.1.symm,if_pos h2];refine Zhm ?_;constructor
 ·rintro⟨h,_,h'⟩;exact⟨by omega,h'⟩
 ·rintro⟨h,h'⟩;exact⟨by omega,by omega,h'⟩
theorem Zip (f:Nat->List Int){n k:Nat}(h:k<n):Zaq ((List.range n).map f) k=f k:=by simp[Zaq,h]
theorem ZkU {E:List (List Int)}{u v:Nat}(hu:u<E.length)(hv:v<E.length):Zag (Zcw E) u v=Zdf E u v:=by
 rw[Zag,Zcw,Zip _ hu,at0,uQ];simp[hv]
structure Near (a:Lv)(i:Nat)(y z:List Int):Prop where
 ok:Zay a=true
 hy:a.2.1[i]? =some y
 hz:a.2.1[i+1]? =some z
namespace Near
variable {a:Lv}{i:Nat}{y z:List Int}
theorem joins (h:Near a i y z):∀x,x∈a.2.2.1->∃r p q,Joins a.2.1 x r p q:=λ x hx=>by
 obtain⟨k,hk⟩:=yW hx;exact ZmO h.ok hk
theorem lt (h:Near a i y z):i+1<a.2.1.length:=(uB.1 h.hz).1
theorem ins (h:Near a i y z):∀e,e∈Zbq y z a.2.2.1->0<=e.1/\e.1<y.length/\0<=e.2/\e.2<z.length:=Zwc (ZeB h.ok) h.joins h.hy h.hz
theorem matD (h:Near a i y z):ZaQ a i ((i:Int)+1)=Zcw (Za6 a.2.1 a.2.2.1 i ((i:Int)+1) y.length):=by
 have hl:=h.lt;have hok:Zeb a i ((i:Int)+1)=true:=by
  simp[Zeb,h.ok];omega
 rw[ZaQ,if_pos hok,Zcg,uQ,h.hy];rfl
theorem matU (h:Near a i y z):ZaQ a ((i:Int)+1) i=Zcw (Za6 a.2.1 a.2.2.1 ((i+1:Nat):Int) i z.length):=by
 have hl:=h.lt;have hok:Zeb a ((i:Int)+1) i=true:=by
  simp[Zeb,h.ok];omega
 rw[ZaQ,if_pos hok,Zcg,show((i:Int)+1).toNat=i+1 by omega,h.hz];rfl
theorem lenD (h:Near a i y z):(ZaQ a i ((i:Int)+1)).length=y.length:=by rw[h.matD];simp[Zcw,Za6]
theorem cellD (h:Near a i y z){u v:Nat}(hu:u<y.length)(hv:v<y.length):Zag (ZaQ a i ((i:Int)+1)) u v=if u=v then 0 else W (λ x w=>ind (x.1=(u:Int)/\w.1=(v:Int)/\w.2<x.2)) (Zbq y z a.2.2.1) (Zbq y z a.2.2.1):=by
 rw[h.matD,ZkU (by simpa[Za6]using hu) (by simpa[Za6]using hv),Zdf];split
 ·rfl
 ·rw[Za6,Zip _ hu,Zip _ hv,Zob (ZeB h.ok) h.joins h.hy h.hz,Zob (ZeB h.ok) h.joins h.hy h.hz,ZkJ];simp only[uG]
theorem cellU (h:Near a i y z){u v:Nat}(hu:u<z.length)(hv:v<z.length):Zag (ZaQ a ((i:Int)+1) i) u v=if u=v then 0 else W (λ x w=>ind (x.2=(u:Int)/\w.2=(v:Int)/\w.1<x.1)) (Zbq y z a.2.2.1) (Zbq y z a.2.2.1):=by
 rw[h.matU,ZkU (by simpa[Za6]using hu) (by simpa[Za6]using hv),Zdf];split
 ·rfl
 ·rw[Za6,Zip _ hu,Zip _ hv,Zoc (ZeB h.ok) h.joins h.hy h.hz,Zoc (ZeB h.ok) h.joins h.hy h.hz,ZkJ];simp only[uG]
abbrev cr (_:Near a i y z):Int:=W (λ x w=>ind (x.1<w.1/\w.2<x.2)) (Zbq y z a.2.2.1) (Zbq y z a.2.2.1)
theorem between (h:Near a i y z):ZbP a i=h.cr:=by
 have hl:=h.lt;rw[ZbP,if_neg (by simp only[ZjO,uG];omega),ZmK,h.lenD];rw[ZmD (g:=λ A=>ZaE (λ B=>W (λ x w=>ind (x.1=(B:Int)/\w.1=(A:Int)/\w.2<x.2)) (Zbq y z a.2.2.1) (Zbq y z a.2.2.1)) A) _ λ A hA=>ZmD _ λ B hB=>by rw[h.cellD (by omega) hA,if_neg (by omega)]];exact Zzq (λ e=>e.1) (λ e=>e.2) _ _ λ e he=>⟨(h.ins e he).1,(h.ins e he).2.1⟩
end Near
namespace Near
variable {a:Lv}{i:Nat}{y z:List Int}
end Near
theorem ZlK {a:Lv}(h:Zay a=true){i:Nat}(hi:i+1<a.2.1.length):∃y z,Near a i y z:=by
 obtain⟨y,hy⟩:=Zad (l:=a.2.1) (k:=i) (by omega);obtain⟨z,hz⟩:=Zad hi;exact⟨y,z,h,hy,hz⟩
end Go.Proofs.YtjjbhjnpeenbkaaGreatDoor
namespace Go.Proofs.YtjjbhjnpeenbkaaGreatDoor
open Go Go.PS Go.Proofs
set_option maxRecDepth 100000
attribute [local irreducible] Zab wpG Zaa Zaf
end Go.Proofs.YtjjbhjnpeenbkaaGreatDoor
namespace Go.Proofs.YtjjbhjnpeenbkaaGreatDoor
open Go Go.PS Go.Proofs
theorem ZqR {l m:List Int}(h:l.Perm m):ZaF l=ZaF m:=
 Ao (le:=(·<=·)) (λ a b _ _ h1 h2=>Int.le_antisymm h1 h2) (Zmp l) (Zmp m) ((ZhG l).trans (h.trans (ZhG m).symm))
namespace Near
variable {a:Lv}{i:Nat}{y z:List Int}
end Near
namespace Near
variable {a:Lv}{i k:Nat}{y z:List Int}
end Near
end Go.Proofs.YtjjbhjnpeenbkaaGreatDoor
namespace Go.Proofs.YtjjbhjnpeenbkaaGreatDoor
open Go Go.PS Go.Proofs
set_option maxRecDepth 100000
attribute [local irreducible] Zab wpG Zaa Zaf
section acc
variable {own oth:Pr->Int}{E:List Pr}{u v:Nat}{p q:Pr}
end acc
end Go.Proofs.YtjjbhjnpeenbkaaGreatDoor
