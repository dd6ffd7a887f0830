/- Crossings: the reference's Total and Straight; what the laws use. -/
import Derived.Test.YtjjbhjnpeenbkaaGreatDoorO
import Derived.Test.YtjjbhjnpeenbkaaGreatDoorPSBridge
import Derived.Test.YtjjbhjnpeenbkaaGreatDoorG
set_option linter.unusedSimpArgs false
set_option linter.unusedVariables false
set_option maxHeartbeats 16000000
namespace Go.Proofs.YtjjbhjnpeenbkaaGreatDoor
open Go Go.PS Go.Proofs
set_option maxRecDepth 100000
attribute [local irreducible] Zad wpG Zaa Zah
def Zlj (c:List Int):Bool:=decide (60<c.length)
def ZfV (a:Lv):Bool:=decide (a.2.1.length<=60/\a.2.2.1.length<=90/\a.2.2.2.length<=90)&& !a.2.1.any Zlj&& !a.2.2.2.any Zlj
theorem Zm3 {a:Lv}(h:ZfV a=true):a.2.1.length<=60/\a.2.2.1.length<=90/\a.2.2.2.length<=90/\(∀y,y∈a.2.1->y.length<=60)/\∀y,y∈a.2.2.2->y.length<=60:=by
 simp only[ZfV,uM,uF,yI,qA]at h;obtain⟨⟨⟨h1,h2,h3⟩,h4⟩,h5⟩:=h;refine⟨h1,h2,h3,λ y hy=>?_,λ y hy=>?_⟩
 ·have:=h4 y hy;simp only[Zlj,uF]at this;omega
 ·have:=h5 y hy;simp only[Zlj,uF]at this;omega
end Go.Proofs.YtjjbhjnpeenbkaaGreatDoor
namespace Go.Proofs.YtjjbhjnpeenbkaaGreatDoor
open Go Go.PS Go.Proofs
abbrev Pr :=Int×Int
def w1 (f:Pr->Int):List Pr->Int
 |[]=>0
 |y::F=>f y+w1 f F
def W (f:Pr->Pr->Int)(F:List Pr):List Pr->Int
 |[]=>0
 |x::E=>w1 (f x) F+W f F E
theorem Zl3 {f g:Pr->Int}:∀{F:List Pr},(∀y,y∈F->f y=g y)->w1 f F=w1 g F
 |[],_=>rfl
 |y::F,h=>by rw[w1,w1,h y (by simp),Zl3 λ z hz=>h z (uN _ hz)]
theorem Zjh {f g:Pr->Pr->Int}{F:List Pr}:∀{E:List Pr},(∀x,x∈E->∀y,y∈F->f x y=g x y)->W f F E=W g F E
 |[],_=>rfl
 |x::E,h=>by rw[W,W,Zl3 (h x (by simp)),Zjh λ z hz=>h z (uN _ hz)]
theorem Zut (f g:Pr->Int):∀F:List Pr,w1 (λ y=>f y+g y) F=w1 f F+w1 g F
 |[]=>rfl
 |y::F=>by rw[w1,w1,w1,Zut f g F];omega
theorem Zpf (f g:Pr->Pr->Int)(F:List Pr):∀E:List Pr,W (λ x y=>f x y+g x y) F E=W f F E+W g F E
 |[]=>rfl
 |x::E=>by rw[W,W,W,Zut,Zpf f g F E];omega
theorem ZoW :∀F:List Pr,w1 (λ _=>0) F=0
 |[]=>rfl
 |y::F=>by rw[w1,ZoW F];rfl
theorem Zpk (F:List Pr):∀E:List Pr,W (λ _ _=>0) F E=0
 |[]=>rfl
 |x::E=>by rw[W,ZoW,Zpk F E];rfl
theorem Zpi (f:Nat->Pr->Pr->Int)(F E:List Pr):∀n,ZaJ (λ k=>W (f k) F E) n=W (λ x y=>ZaJ (λ k=>f k x y) n) F E
 |0=>by simp only[ZaJ];rw[Zpk]
 |n+1=>by simp only[ZaJ];rw[Zpi f F E n,Zpf]
theorem Zph (f:Pr->Pr->Int):∀E:List Pr,W f [] E=0
 |[]=>rfl
 |x::E=>by rw[W,Zph f E];rfl
theorem Zpg (f:Pr->Pr->Int)(y:Pr)(F:List Pr):∀E:List Pr,W f (y::F) E=w1 (λ x=>f x y) E+W f F E
 |[]=>rfl
 |x::E=>by rw[W,W,w1,w1,Zpg f y F E];omega
theorem Zpj (f:Pr->Pr->Int):∀F E:List Pr,W f F E=W (λ x y=>f y x) E F
 |[],E=>by rw[Zph,W]
 |y::F,E=>by rw[Zpg,W,Zpj f F E]
theorem Zuu (g:Pr->Pr)(f:Pr->Int):∀F:List Pr,w1 f (F.map g)=w1 (λ y=>f (g y)) F
 |[]=>rfl
 |y::F=>by rw[uS,w1,w1,Zuu g f F]
theorem Zmf (g:Pr->Pr)(f:Pr->Pr->Int)(F:List Pr):∀E:List Pr,W f (F.map g) (E.map g)=W (λ x y=>f (g x) (g y)) F E
 |[]=>rfl
 |x::E=>by rw[uS,W,W,Zuu,Zmf g f F E]
def ind (p:Prop)[Decidable p]:Int:=if p then 1 else 0
theorem Zuk (x:Int)(p:Pr->Bool)(g:Pr->Int):∀F:List Pr,((Zcq ((F.filter p).map g) x:Nat):Int)=w1 (λ y=>ind (p y=true/\g y<x)) F
 |[]=>rfl
 |y::F=>by
  have ih:=Zuk x p g F;rw[w1,<-ih];by_cases hp:p y=true
  ·rw[List.filter_cons_of_pos hp,uS,Zcq,Zcq,jV];by_cases hg:g y<x
   ·simp[ind,hp,hg];omega
   ·simp[ind,hp,hg]
  ·rw[List.filter_cons_of_neg hp];simp[ind,hp]
theorem Zmv (p q:Pr->Bool)(g:Pr->Int)(F:List Pr):∀E:List Pr,((ZcA ((E.filter p).map g) ((F.filter q).map g):Nat):Int)=W (λ x y=>ind (p x=true/\q y=true/\g y<g x)) F E
 |[]=>rfl
 |x::E=>by
  have ih:=Zmv p q g F E;rw[W,<-ih];by_cases hp:p x=true
  ·rw[List.filter_cons_of_pos hp,uS,ZcA,qQ,Zuk]
   congr 1
   refine Zl3 λ y _=>?_
   simp[ind,hp]
  ·rw[List.filter_cons_of_neg hp];have:w1 (λ y=>ind (p x=true/\q y=true/\g y<g x)) F=0:=by
    rw[<-ZoW F];refine Zl3 λ y _=>?_
    simp[ind,hp]
   rw[this];omega
theorem ZoI (u:Int)(g:Nat->Int):∀n:Nat,(∀k:Nat,(k:Int)≠u->g k=0)->ZaJ g n=if 0<=u/\u<n then g u.toNat else 0
 |0,_=>by rw[ZaJ,if_neg (by omega)]
 |n+1,h=>by
  rw[ZaJ,ZoI u g n h];by_cases c:(n:Int)=u
  ·subst c;rw[if_neg (by omega),if_pos (by omega),uK];omega
  ·rw[h n c];by_cases c2:0<=u/\u<n
   ·rw[if_pos c2,if_pos (by omega)];omega
   ·rw[if_neg c2,if_neg (by omega)];rfl
theorem ZiT {y:List Int}(hn:y.Nodup){v:Int}{p:Nat}(h:y[p]? =some v):placeF y v=p:=by
 have hi:=ZjD hn h;rw[placeF];cases hf:y.findIdx? (λ x=>decide (x=v))with
 |none=>
  have:=Bi.1 hf v (uA h);simp at this
 |some k=>
  obtain⟨hk,hk2,_⟩:=kQ.1 hf;have hv:y[k]=v:=by simpa using hk2
  have:=ZjD hn (k:=k) (v:=v) (by rw[uQ hk,hv]);rw[Zc6];omega
theorem Zj7 {y:List Int}{v:Int}(h:v∉y):placeF y v=-1:=by
 rw[placeF,ZfW]
 ·rfl
 ·intro j z hz;simp only[yZ];rintro rfl;exact h (uA hz)
theorem Zcr.placeF {ls:List (List Int)}(hn:ls.flatten.Nodup){v:Int}{r p i:Nat}{y:List Int}(h:Zcr ls v r p)(hy:ls[i]? =some y):Go.Proofs.YtjjbhjnpeenbkaaGreatDoor.placeF y v=if r=i then(p:Int)else -1:=by
 by_cases c:r=i
 ·subst c;rw[if_pos rfl];obtain⟨z,h1,h2⟩:=h;rw[hy]at h1;cases h1;exact ZiT ((jK.1 hn).1 y (uA hy)) h2
 ·rw[if_neg c];refine Zj7 λ hv=>?_
  obtain⟨q,hq⟩:=yW hv;exact c (h.layer hn ⟨y,hy,hq⟩)
theorem ZnU {ls:List (List Int)}(hn:ls.flatten.Nodup){x:Arc}{r p q i:Nat}{y z:List Int}(h:Joins ls x r p q)(hy:ls[i]? =some y)(hz:ls[i+1]? =some z):ZgC y z x=if r=i then[((p:Int),(q:Int))]else[]:=by
 rw[ZgC,h.up.placeF hn hy,h.dn.placeF hn hz];by_cases c:r=i
 ·simp[c]
 ·simp[c]
theorem Joins.lt {ls:List (List Int)}{x:Arc}{r p q:Nat}(h:Joins ls x r p q){y z:List Int}(hy:ls[r]? =some y)(hz:ls[r+1]? =some z):p<y.length/\q<z.length:=by
 obtain⟨⟨u,h1,h2⟩,⟨v,h3,h4⟩⟩:=h;rw[hy]at h1;cases h1;rw[hz]at h3;cases h3;exact⟨(uB.1 h2).1,(uB.1 h4).1⟩
section valid
variable {ls:List (List Int)}{ar:List Arc}(hn:ls.flatten.Nodup)(hj:∀x,x∈ar->∃r p q,Joins ls x r p q){i:Nat}{y z:List Int}(hy:ls[i]? =some y)(hz:ls[i+1]? =some z)
include hn hj hy hz
theorem Zz7 :∀e,e∈ZbJ y z ar->0<=e.1/\e.1<y.length/\0<=e.2/\e.2<z.length:=by
 intro e he;obtain⟨x,hx,he⟩:=kZ.1 he;obtain⟨r,p,q,h⟩:=hj x hx;rw[ZnU hn h hy hz]at he;split at he
 ·rename_i c;subst c;have:=h.lt hy hz;rw[uT]at he;subst he;dsimp only;omega
 ·cases he
theorem Zqt (p':Nat):ZdZ ls ar i ((i:Int)+1) ar.length p'=((ZbJ y z ar).filter λ e:Pr=>decide (e.1=(p':Int))).map (·.2):=by
 rw[ZdZ,yH]
 induction ar with
 |nil=>rfl
 |cons x ar ih=>
  obtain⟨r,p,q,h⟩:=hj x (by simp);rw[gO,ih (λ w hw=>hj w (uN _ hw))];have e:ZbJ y z (x::ar)=ZgC y z x++ZbJ y z ar:=by simp[ZbJ]
  rw[e,gE,uR]
  congr 1
  rw[ZnU hn h hy hz,ZeU,h.up.ly hn,h.dn.ly hn,h.up.pl hn,h.dn.pl hn];by_cases c:r=i
  ·subst c;rw[if_pos ⟨rfl,by omega⟩,if_pos rfl];by_cases c2:(p:Int)=p'
   ·simp[c2]
   ·simp[c2]
  ·rw[if_neg (by omega),if_neg (by omega),if_neg c];rfl
theorem Zqu (q':Nat):ZdZ ls ar ((i+1:Nat):Int) i ar.length q'=((ZbJ y z ar).filter λ e:Pr=>decide (e.2=(q':Int))).map (·.1):=by
 rw[ZdZ,yH]
 induction ar with
 |nil=>rfl
 |cons x ar ih=>
  obtain⟨r,p,q,h⟩:=hj x (by simp);rw[gO,ih (λ w hw=>hj w (uN _ hw))];have e:ZbJ y z (x::ar)=ZgC y z x++ZbJ y z ar:=by simp[ZbJ]
  rw[e,gE,uR]
  congr 1
  rw[ZnU hn h hy hz,ZeU,h.up.ly hn,h.dn.ly hn,h.up.pl hn,h.dn.pl hn];by_cases c:r=i
  ·subst c;rw[if_neg (by omega),if_pos ⟨by omega,rfl⟩,if_pos rfl];by_cases c2:(q:Int)=q'
   ·simp[c2]
   ·simp[c2]
  ·rw[if_neg (by omega),if_neg (by omega),if_neg c];rfl
end valid
end Go.Proofs.YtjjbhjnpeenbkaaGreatDoor
namespace Go.Proofs.YtjjbhjnpeenbkaaGreatDoor
open Go Go.PS Go.Proofs
theorem ZhV {p:Prop}[Decidable p](h:¬p):ind p=0:=by simp[ind,h]
theorem Zq8 {p:Prop}[Decidable p](h:p):ind p=1:=by simp[ind,h]
theorem ZiG {p q:Prop}[Decidable p][Decidable q](h:p↔q):ind p=ind q:=by
 by_cases hp:p
 ·rw[Zq8 hp,Zq8 (h.1 hp)]
 ·rw[ZhV hp,ZhV λ hq=>hp (h.2 hq)]
theorem ZDL (own other:Pr->Int)(P:List Pr)(n:Nat)(hin:∀e,e∈P->0<=own e/\own e<n):
  ZaJ (λ A=>ZaJ (λ B=>W (λ x y=>ind (own x=(B:Int)/\own y=(A:Int)/\other y<other x)) P P) A) n=W (λ x y=>ind (own x<own y/\other y<other x)) P P:=by
 simp only[Zpi];refine Zjh λ x hx y hy=>?_
 have h1:=hin x hx;have h2:=hin y hy;have hA:∀A:Nat,ZaJ (λ B:Nat=>ind (own x=(B:Int)/\own y=(A:Int)/\other y<other x)) A=ind (own x<A/\own y=(A:Int)/\other y<other x):=λ A=>by
  rw[ZoI (own x) _ A λ k hk=>ZhV λ h=>hk h.1.symm];by_cases c:own x<A
  ·rw[if_pos ⟨h1.1,c⟩];refine ZiG ?_;constructor
   ·rintro⟨_,h⟩;exact⟨c,h⟩
   ·rintro⟨_,h⟩;exact⟨by omega,h⟩
  ·rw[if_neg (λ h=>c h.2),ZhV λ h=>c h.1]
 simp only[hA];rw[ZoI (own y) _ n λ k hk=>ZhV λ h=>hk h.2.1.symm,if_pos h2];refine ZiG ?_;constructor
 ·rintro⟨h,_,h'⟩;exact⟨by omega,h'⟩
 ·rintro⟨h,h'⟩;exact⟨by omega,by omega,h'⟩
theorem ZjO (f:Nat->List Int){n k:Nat}(h:k<n):Zay ((List.range n).map f) k=f k:=by simp[Zay,h]
theorem ZmF {E:List (List Int)}{u v:Nat}(hu:u<E.length)(hv:v<E.length):Zak (Zc9 E) u v=ZdV E u v:=by
 rw[Zak,Zc9,ZjO _ hu,at0,uK];simp[hv]
structure Near (a:Lv)(i:Nat)(y z:List Int):Prop where
 ok:Zaw a=true
 hy:a.2.1[i]? =some y
 hz:a.2.1[i+1]? =some z
namespace Near
variable {a:Lv}{i:Nat}{y z:List Int}
theorem joins (h:Near a i y z):∀x,x∈a.2.2.1->∃r p q,Joins a.2.1 x r p q:=λ x hx=>by
 obtain⟨k,hk⟩:=yW hx;exact ZoT h.ok hk
theorem lt (h:Near a i y z):i+1<a.2.1.length:=(uB.1 h.hz).1
theorem ins (h:Near a i y z):∀e,e∈ZbJ y z a.2.2.1->0<=e.1/\e.1<y.length/\0<=e.2/\e.2<z.length:=Zz7 (ZfC h.ok) h.joins h.hy h.hz
theorem matD (h:Near a i y z):ZaT a i ((i:Int)+1)=Zc9 (Zbt a.2.1 a.2.2.1 i ((i:Int)+1) y.length):=by
 have hl:=h.lt;have hok:Zd5 a i ((i:Int)+1)=true:=by
  simp[Zd5,h.ok];omega
 rw[ZaT,if_pos hok,ZcI,uK,h.hy];rfl
theorem matU (h:Near a i y z):ZaT a ((i:Int)+1) i=Zc9 (Zbt a.2.1 a.2.2.1 ((i+1:Nat):Int) i z.length):=by
 have hl:=h.lt;have hok:Zd5 a ((i:Int)+1) i=true:=by
  simp[Zd5,h.ok];omega
 rw[ZaT,if_pos hok,ZcI,show((i:Int)+1).toNat=i+1 by omega,h.hz];rfl
theorem lenD (h:Near a i y z):(ZaT a i ((i:Int)+1)).length=y.length:=by rw[h.matD];simp[Zc9,Zbt]
theorem cellD (h:Near a i y z){u v:Nat}(hu:u<y.length)(hv:v<y.length):Zak (ZaT a i ((i:Int)+1)) u v=if u=v then 0 else W (λ x w=>ind (x.1=(u:Int)/\w.1=(v:Int)/\w.2<x.2)) (ZbJ y z a.2.2.1) (ZbJ y z a.2.2.1):=by
 rw[h.matD,ZmF (by simpa[Zbt]using hu) (by simpa[Zbt]using hv),ZdV];split
 ·rfl
 ·rw[Zbt,ZjO _ hu,ZjO _ hv,Zqt (ZfC h.ok) h.joins h.hy h.hz,Zqt (ZfC h.ok) h.joins h.hy h.hz,Zmv];simp only[uF]
theorem cellU (h:Near a i y z){u v:Nat}(hu:u<z.length)(hv:v<z.length):Zak (ZaT a ((i:Int)+1) i) u v=if u=v then 0 else W (λ x w=>ind (x.2=(u:Int)/\w.2=(v:Int)/\w.1<x.1)) (ZbJ y z a.2.2.1) (ZbJ y z a.2.2.1):=by
 rw[h.matU,ZmF (by simpa[Zbt]using hu) (by simpa[Zbt]using hv),ZdV];split
 ·rfl
 ·rw[Zbt,ZjO _ hu,ZjO _ hv,Zqu (ZfC h.ok) h.joins h.hy h.hz,Zqu (ZfC h.ok) h.joins h.hy h.hz,Zmv];simp only[uF]
abbrev cr (_:Near a i y z):Int:=W (λ x w=>ind (x.1<w.1/\w.2<x.2)) (ZbJ y z a.2.2.1) (ZbJ y z a.2.2.1)
theorem between (h:Near a i y z):Zb5 a i=h.cr:=by
 have hl:=h.lt;rw[Zb5,if_neg (by simp only[ZjW,uF];omega),ZoN,h.lenD];rw[ZoG (g:=λ A=>ZaJ (λ B=>W (λ x w=>ind (x.1=(B:Int)/\w.1=(A:Int)/\w.2<x.2)) (ZbJ y z a.2.2.1) (ZbJ y z a.2.2.1)) A) _ λ A hA=>ZoG _ λ B hB=>by rw[h.cellD (by omega) hA,if_neg (by omega)]];exact ZDL (λ e=>e.1) (λ e=>e.2) _ _ λ e he=>⟨(h.ins e he).1,(h.ins e he).2.1⟩
end Near
namespace Near
variable {a:Lv}{i:Nat}{y z:List Int}
end Near
theorem ZnD {a:Lv}(h:Zaw a=true){i:Nat}(hi:i+1<a.2.1.length):∃y z,Near a i y z:=by
 obtain⟨y,hy⟩:=Zac (l:=a.2.1) (k:=i) (by omega);obtain⟨z,hz⟩:=Zac hi;exact⟨y,z,h,hy,hz⟩
end Go.Proofs.YtjjbhjnpeenbkaaGreatDoor
namespace Go.Proofs.YtjjbhjnpeenbkaaGreatDoor
open Go Go.PS Go.Proofs
set_option maxRecDepth 100000
attribute [local irreducible] Zad wpG Zaa Zah
end Go.Proofs.YtjjbhjnpeenbkaaGreatDoor
namespace Go.Proofs.YtjjbhjnpeenbkaaGreatDoor
open Go Go.PS Go.Proofs
theorem Zot {l m:List Int}(h:l.Perm m):ZaK l=ZaK m:=
 Bm (le:=(·<=·)) (λ a b _ _ h1 h2=>Int.le_antisymm h1 h2) (Zou l) (Zou m) ((Zhu l).trans (h.trans (Zhu m).symm))
namespace Near
variable {a:Lv}{i:Nat}{y z:List Int}
end Near
def Zi3 (y:List Int)(k:Nat):List Int:=(y.set k (at0 y ((k+1:Nat):Int))).set (k+1) (at0 y k)
theorem ZDA {y:List Int}{k:Nat}(hk:k+1<y.length)(j:Nat):(Zi3 y k)[j]? =if j=k then y[k+1]? else if j=k+1 then y[k]? else y[j]? :=by
 have g0:=at0_at (r:=y) (i:=k) (by omega);have g1:=at0_at (r:=y) (i:=k+1) hk;rw[Zi3,yX,yX,yJ];by_cases c1:j=k
 ·subst c1;rw[if_neg (by omega),if_pos rfl,if_pos (by omega),if_pos rfl,g1]
 ·by_cases c2:j=k+1
  ·subst c2;rw[if_pos rfl,if_pos hk,if_neg c1,if_pos rfl,g0]
  ·rw[if_neg (λ h=>c2 h.symm),if_neg (λ h=>c1 h.symm),if_neg c1,if_neg c2]
theorem ZDB {y:List Int}{k:Nat}(hk:k+1<y.length):(Zi3 y k).Perm y:=by
 have g0:=at0_at (r:=y) (i:=k) (by omega);have g1:=at0_at (r:=y) (i:=k+1) hk;have h1:y=y.take k++at0 y k::at0 y ((k+1:Nat):Int)::y.drop (k+2):=by
  have d0:=qS (l:=y) (i:=k) (by omega);have d1:=qS (l:=y) (i:=k+1) hk;obtain⟨_,e0⟩:=uB.1 g0;obtain⟨_,e1⟩:=uB.1 g1;rw[e0]at d0;rw[e1]at d1
  conv=>lhs;rw[<-gI k y,d0,d1]
 have h2:Zi3 y k=y.take k++at0 y ((k+1:Nat):Int)::at0 y k::y.drop (k+2):=by
  refine yS λ j=>?_
  rw[ZDA hk];have hl:(y.take k).length=k:=by rw[yF];omega
  rcases Ap j k with c|c|c
  ·rw[if_neg (by omega),if_neg (by omega),qW (by omega),jI c]
  ·subst c;rw[if_pos rfl,qG (by omega),hl,jF];exact g1
  ·rw[if_neg (by omega),qG (by omega),hl];by_cases c2:j=k+1
   ·subst c2;rw[if_pos rfl,show k+1-k=0+1 by omega,jO];exact g0
   ·rw[if_neg c2,show j-k=(j-(k+2))+1+1 by omega,jO,jO,gA]
    congr 1;omega
 rw[h2]
 conv=>rhs;rw[h1]
 exact List.Perm.append_left _ (List.Perm.swap _ _ _)
def Zl0 (a:Lv)(i k:Nat)(y:List Int):Lv:=(a.1,a.2.1.set i (Zi3 y k),a.2.2.1,a.2.2.2)
namespace Near
variable {a:Lv}{i k:Nat}{y z:List Int}
theorem turn (h:Near a i y z)(hk:k+1<y.length):Near (Zl0 a i k y) i (Zi3 y k) z:=by
 have hl:=h.lt;refine⟨?_,?_,?_⟩
 ·rw[Zl0,Zup (Zs8 h.hy (Zot (ZDB hk)))];exact h.ok
 ·rw[Zl0,yX,if_pos rfl,if_pos (by omega)]
 ·rw[Zl0,yX,if_neg (by omega)];exact h.hz
end Near
end Go.Proofs.YtjjbhjnpeenbkaaGreatDoor
namespace Go.Proofs.YtjjbhjnpeenbkaaGreatDoor
open Go Go.PS Go.Proofs
set_option maxRecDepth 100000
attribute [local irreducible] Zad wpG Zaa Zah
section acc
variable {own oth:Pr->Int}{E:List Pr}{u v:Nat}{p q:Pr}
end acc
end Go.Proofs.YtjjbhjnpeenbkaaGreatDoor
namespace Go.Proofs.YtjjbhjnpeenbkaaGreatDoor
open Go Go.PS Go.Proofs
open Go.Bd (Zat ZgP ZgQ ZoB)
theorem ZoA {c d:Nat->Nat->Int}:∀{l:List Nat},l.Nodup->(∀u,u∈l->∀v,v∈l->u≠v->c u v=d u v)->Zat c l=Zat d l
 |[],_,_=>rfl
 |u::l,hn,h=>by
  obtain⟨h1,h2⟩:=yV.1 hn;have e:l.map (c u)=l.map (d u):=yN λ v hv=>h u (by simp) v (uN _ hv) λ he=>h1 (he▸hv)
  rw[Zat,Zat,e,ZoA h2 λ u hu v hv=>h u (uN _ hu) v (uN _ hv)]
theorem Zt0 (f:Nat->Nat->Pr->Int)(l:List Nat):∀F:List Pr,Zat (λ u v=>w1 (f u v) F) l=w1 (λ y=>Zat (λ u v=>f u v y) l) F
 |[]=>by simp only[w1];exact ZgQ l
 |y::F=>by simp only[w1];rw[ZgP,Zt0 f l F]
theorem ZtX (f:Nat->Nat->Pr->Pr->Int)(l:List Nat)(F:List Pr):∀E:List Pr,Zat (λ u v=>W (f u v) F E) l=W (λ x y=>Zat (λ u v=>f u v x y) l) F E
 |[]=>by simp only[W];exact ZgQ l
 |x::E=>by simp only[W];rw[ZgP,Zt0,ZtX f l F E]
theorem ZtZ {own oth:Pr->Int}{P:List Pr}{o:List Nat}{c:Nat->Nat->Int}(hn:o.Nodup)(hin:∀e,e∈P->0<=own e/\(own e).toNat∈o)
  (hc:∀u,u∈o->∀v,v∈o->u≠v->c u v=W (λ x w=>ind (own x=(u:Int)/\own w=(v:Int)/\oth w<oth x)) P P):
  Zat c o=W (λ x w=>ind (o.idxOf (own x).toNat<o.idxOf (own w).toNat/\oth w<oth x)) P P:=by
 rw[ZoA hn hc,ZtX];refine Zjh λ x hx w hw=>?_
 obtain⟨x1,x2⟩:=hin x hx;obtain⟨y1,y2⟩:=hin w hw;have e:∀u v:Nat,ind (own x=(u:Int)/\own w=(v:Int)/\oth w<oth x)=if u=(own x).toNat/\v=(own w).toNat then ind (oth w<oth x)else 0:=λ u v=>by
  by_cases h:u=(own x).toNat/\v=(own w).toNat
  ·rw[if_pos h];exact ZiG ⟨λ h2=>h2.2.2,λ h2=>⟨by omega,by omega,h2⟩⟩
  ·rw[if_neg h];exact ZhV λ h2=>h (by omega)
 have e2:(λ u v:Nat=>ind (own x=(u:Int)/\own w=(v:Int)/\oth w<oth x))=λ u v=>if u=(own x).toNat/\v=(own w).toNat then ind (oth w<oth x)else 0:=funext λ u=>funext λ v=>e u v
 rw[e2,ZoB _ _ _ o hn x2 y2];by_cases h:o.idxOf (own x).toNat<o.idxOf (own w).toNat
 ·rw[if_pos h];exact ZiG ⟨λ h2=>⟨h,h2⟩,λ h2=>h2.2⟩
 ·rw[if_neg h];exact(ZhV λ h2=>h h2.1).symm
end Go.Proofs.YtjjbhjnpeenbkaaGreatDoor
namespace Go.Proofs.YtjjbhjnpeenbkaaGreatDoor
open Go Go.PS Go.Proofs
open Go.Bd (Zat Part Zgr)
def ZaM (y:List Int)(o:List Nat):List Int:=o.map λ k=>(y[k]?).getD 0
theorem ZnZ (y:List Int)(o:List Nat):(ZaM y o).length=o.length:=by simp[ZaM]
theorem Zsr {y:List Int}{o:List Nat}{p:Nat}{v:Int}(hp:p∈o)(h:y[p]? =some v):(ZaM y o)[o.idxOf p]? =some v:=by
 have hl:=List.idxOf_lt_length_iff.2 hp;have hg:o[o.idxOf p]? =some p:=by
  rw[uQ hl,zT]
 rw[ZaM,uJ,hg,yY,h];rfl
theorem Zss {y:List Int}{o:List Nat}(h:Part y.length 0 o){v:Int}:v∈ZaM y o↔v∈y:=by
 constructor
 ·intro hv;obtain⟨k,hk,rfl⟩:=uP.1 hv;have:=h.lt k hk;rw[uQ this];exact jU this
 ·intro hv;obtain⟨p,hp⟩:=yW hv;have hlt:=(uB.1 hp).1;have:=Zsr (Zgr y.length h.nd h.lt (by have:=h.len;omega) p hlt) hp;exact uA this
theorem Zst {y:List Int}{o:List Nat}(hy:y.Nodup)(h:Part y.length 0 o):(ZaM y o).Nodup:=by
 refine List.pairwise_map.2 (h.nd.imp_of_mem λ{a b} ha hb hne he=>hne ?_);have h1:=h.lt a ha;have h2:=h.lt b hb;rw[uQ h1,uQ h2]at he;exact(List.getElem_inj hy).1 he
theorem Zsu {y:List Int}{o:List Nat}(hy:y.Nodup)(h:Part y.length 0 o)(v:Int):placeF (ZaM y o) v=if 0<=placeF y v then((o.idxOf (placeF y v).toNat:Nat):Int)else -1:=by
 by_cases hv:v∈y
 ·obtain⟨p,hp⟩:=yW hv;have hlt:=(uB.1 hp).1;rw[ZiT (Zst hy h) (Zsr (Zgr y.length h.nd h.lt (by have:=h.len;omega) p hlt) hp),ZiT hy hp,if_pos (by omega),uK]
 ·rw[Zj7 (λ h2=>hv ((Zss h).1 h2)),Zj7 hv,if_neg (by omega)]
theorem Zz9 {y z:List Int}{o:List Nat}(hy:y.Nodup)(h:Part y.length 0 o)(ar:List Arc):ZbJ (ZaM y o) z ar=(ZbJ y z ar).map λ e=>(((o.idxOf e.1.toNat:Nat):Int),e.2):=by
 rw[ZbJ,ZbJ,List.map_flatMap]
 congr 1
 funext x
 rw[ZgC,ZgC,Zsu hy h];by_cases c:0<=placeF y x.1
 ·rw[if_pos c];by_cases c2:0<=placeF z x.2
  ·rw[if_pos ⟨by omega,c2⟩,if_pos ⟨c,c2⟩];rfl
  ·rw[if_neg (λ h=>c2 h.2),if_neg (λ h=>c2 h.2)];rfl
 ·rw[if_neg c,if_neg (λ h=>by omega),if_neg (λ h=>c h.1)];rfl
theorem Zz8 {y z:List Int}{o:List Nat}(hz:z.Nodup)(h:Part z.length 0 o)(ar:List Arc):ZbJ y (ZaM z o) ar=(ZbJ y z ar).map λ e=>(e.1,((o.idxOf e.2.toNat:Nat):Int)):=by
 rw[ZbJ,ZbJ,List.map_flatMap]
 congr 1
 funext x
 rw[ZgC,ZgC,Zsu hz h];by_cases c:0<=placeF y x.1
 ·by_cases c2:0<=placeF z x.2
  ·rw[if_pos c2,if_pos ⟨c,by omega⟩,if_pos ⟨c,c2⟩];rfl
  ·rw[if_neg c2,if_neg (λ h=>by omega),if_neg (λ h=>c2 h.2)];rfl
 ·rw[if_neg (λ h=>c h.1),if_neg (λ h=>c h.1)];rfl
theorem Near.perm_up {a a':Lv}{i:Nat}{y z:List Int}{o:List Nat}(h:Near a i y z)(h':Near a' i (ZaM y o) z)(har:a'.2.2.1=a.2.2.1)(ho:Part y.length 0 o):
  Zb5 a' i=Zat (λ u v=>Zak (ZaT a i ((i:Int)+1)) u v) o:=by
 have hy:y.Nodup:=(jK.1 (ZfC h.ok)).1 y (uA h.hy);have hin:=h.ins;rw[h'.between,Near.cr,har,Zz9 hy ho,Zmf];rw[ZtZ (own:=λ e=>e.1) (oth:=λ e=>e.2) (P:=ZbJ y z a.2.2.1) ho.nd (λ e he=>⟨(hin e he).1,Zgr y.length ho.nd ho.lt (by have:=ho.len;omega) _ (by have:=hin e he;omega)⟩)
  (λ u hu v hv hne=>by rw[h.cellD (ho.lt u hu) (ho.lt v hv),if_neg hne])]
 exact Zjh λ x _ w _=>ZiG ⟨λ h2=>⟨by have:=h2.1;dsimp only at this;omega,h2.2⟩,λ h2=>⟨by have:=h2.1;dsimp only;omega,h2.2⟩⟩
theorem Near.perm_dn {a a':Lv}{i:Nat}{y z:List Int}{o:List Nat}(h:Near a i y z)(h':Near a' i y (ZaM z o))(har:a'.2.2.1=a.2.2.1)(ho:Part z.length 0 o):
  Zb5 a' i=Zat (λ u v=>Zak (ZaT a ((i:Int)+1) i) u v) o:=by
 have hz:z.Nodup:=(jK.1 (ZfC h.ok)).1 z (uA h.hz);have hin:=h.ins;rw[h'.between,Near.cr,har,Zz8 hz ho,Zmf,Zpj];rw[ZtZ (own:=λ e=>e.2) (oth:=λ e=>e.1) (P:=ZbJ y z a.2.2.1) ho.nd (λ e he=>⟨(hin e he).2.2.1,Zgr z.length ho.nd ho.lt (by have:=ho.len;omega) _ (by have:=hin e he;omega)⟩)
  (λ u hu v hv hne=>by rw[h.cellU (ho.lt u hu) (ho.lt v hv),if_neg hne])]
 exact Zjh λ x _ w _=>ZiG ⟨λ h2=>⟨by have:=h2.2;dsimp only at this;omega,h2.1⟩,λ h2=>⟨h2.2,by have:=h2.1;dsimp only;omega⟩⟩
end Go.Proofs.YtjjbhjnpeenbkaaGreatDoor
namespace Go.Proofs.YtjjbhjnpeenbkaaGreatDoor
open Go Go.PS Go.Proofs
open Go.Bd (Zat ZgP ZgQ Part Zgr)
def Zcc (a:Lv)(i:Nat)(y:List Int):Lv:=(a.1,a.2.1.set i y,a.2.2.1,a.2.2.2)
theorem ZsW (n:Nat):Part n 0 (List.range n):=⟨kL,λ v hv=>yA.1 hv,by simp⟩
theorem ZAe (y:List Int):ZaM y (List.range y.length)=y:=by
 refine yS λ k=>?_
 rw[ZaM,uJ];by_cases h:k<y.length
 ·rw[qC h,yY,uQ h];rfl
 ·rw[uL (by simpa using h),uL (by omega)];rfl
def ZhI (a:Lv)(i:Nat)(u v:Nat):Int:=Zak (ZaT a i ((i:Int)-1)) u v+Zak (ZaT a i ((i:Int)+1)) u v
theorem Zt3 {f g:Nat->Int}(i:Nat)(h:∀j,j≠i->j+1≠i->f j=g j):∀n,ZaJ f n=ZaJ g n+(if i<n then f i-g i else 0)+(if 0<i/\i<=n then f (i-1)-g (i-1)else 0)
 |0=>by simp only[ZaJ];rw[if_neg (by omega),if_neg (by omega)];rfl
 |n+1=>by
  rw[ZaJ,ZaJ,Zt3 i h n];by_cases c1:n=i
  ·subst c1
   (repeat' split)<;>omega
  ·by_cases c2:n+1=i
   ·subst c2;simp only[zU]
    (repeat' split)<;>omega
   ·rw[h n c1 c2]
    (repeat' split)<;>omega
theorem ZkT {a:Lv}{j:Nat}(h:¬j+1<a.2.1.length):Zb5 a j=0:=by
 rw[Zb5,if_pos (by simp only[ZjW,uF];omega)]
theorem ZAC {a:Lv}{i:Nat}{y:List Int}{o:List Nat}(hv:Zaw a=true)(hv':Zaw (Zcc a i (ZaM y o))=true)(hy:a.2.1[i]? =some y)(ho:Part y.length 0 o):
  Zbk (Zcc a i (ZaM y o))-Zbk a=Zat (ZhI a i) o-Zat (ZhI a i) (List.range y.length):=by
 have hil:=(uB.1 hy).1;have hlen:(Zcc a i (ZaM y o)).2.1.length=a.2.1.length:=yJ;have hget:∀j,j≠i->(Zcc a i (ZaM y o)).2.1[j]? =a.2.1[j]? :=λ j hj=>jH (Ne.symm hj)
 have hget2:(Zcc a i (ZaM y o)).2.1[i]? =some (ZaM y o):=gU hil;have hrp:=ZsW y.length;have hpr:=ZAe y
 have he:∀j:Nat,j≠i->j+1≠i->Zb5 (Zcc a i (ZaM y o)) j=Zb5 a j:=λ j h1 h2=>by
  by_cases c:j+1<a.2.1.length
  ·obtain⟨p,q,hn⟩:=ZnD hv c;have hn':Near (Zcc a i (ZaM y o)) j p q:=⟨hv',(hget j h1).trans hn.hy,(hget (j+1) h2).trans hn.hz⟩;rw[hn.between,hn'.between];rfl
  ·rw[ZkT c,ZkT (by rw[hlen];exact c)]
 have hup:Zb5 (Zcc a i (ZaM y o)) i-Zb5 a i=Zat (Zak (ZaT a i ((i:Int)+1))) o-Zat (Zak (ZaT a i ((i:Int)+1))) (List.range y.length):=by
  by_cases c:i+1<a.2.1.length
  ·obtain⟨p,z,hn⟩:=ZnD hv c;obtain rfl:p=y:=by have:=hn.hy;rw[hy]at this;cases this;rfl
   have hn':Near (Zcc a i (ZaM p o)) i (ZaM p o) z:=⟨hv',hget2,(hget (i+1) (by omega)).trans hn.hz⟩;have hn0:Near a i (ZaM p (List.range p.length)) z:=by rw[hpr];exact hn
   rw[hn.perm_up hn' rfl ho,hn.perm_up hn0 rfl hrp]
  ·have hm:ZaT a i ((i:Int)+1)=[]:=by
    rw[ZaT,if_neg];intro hh;simp only[Zd5,uM,uF]at hh;omega
   have hz:Zak (ZaT a i ((i:Int)+1))=λ _ _=>0:=by funext u v;rw[hm];rfl
   rw[hz,ZgQ,ZgQ,ZkT c,ZkT (by rw[hlen];exact c)]
 have hdn:(if 0<i/\i<=a.2.1.length then Zb5 (Zcc a i (ZaM y o)) ((i-1:Nat):Int)-Zb5 a ((i-1:Nat):Int)else 0)=
   Zat (Zak (ZaT a i ((i:Int)-1))) o-Zat (Zak (ZaT a i ((i:Int)-1))) (List.range y.length):=by
  by_cases c:0<i
  ·obtain⟨k,rfl⟩:∃k,i=k+1:=⟨i-1,by omega⟩;rw[if_pos ⟨c,by omega⟩,zU,show((k+1:Nat):Int)-1=(k:Int) by omega,show((k+1:Nat):Int)=(k:Int)+1 by omega];obtain⟨x,p,hn⟩:=ZnD hv (i:=k) (by omega);obtain rfl:p=y:=by have:=hn.hz;rw[hy]at this;cases this;rfl
   have hn':Near (Zcc a (k+1) (ZaM p o)) k x (ZaM p o):=⟨hv',(hget k (by omega)).trans hn.hy,hget2⟩;have hn0:Near a k x (ZaM p (List.range p.length)):=by rw[hpr];exact hn
   rw[hn.perm_dn hn' rfl ho,hn.perm_dn hn0 rfl hrp]
  ·obtain rfl:i=0:=by omega
   have hm:ZaT a ((0:Nat):Int) (((0:Nat):Int)-1)=[]:=by
    rw[ZaT,if_neg];intro hh;simp only[Zd5,uM,uF]at hh;omega
   have hz:Zak (ZaT a ((0:Nat):Int) (((0:Nat):Int)-1))=λ _ _=>0:=by funext u v;rw[hm];rfl
   rw[hz,ZgQ,ZgQ,if_neg (by omega)];rfl
 have hb:ZhI a i=λ u v=>Zak (ZaT a i ((i:Int)-1)) u v+Zak (ZaT a i ((i:Int)+1)) u v:=rfl
 rw[Zbk,Zbk,hlen,Zt3 i he a.2.1.length,if_pos hil,hdn,hup,hb,ZgP,ZgP];omega
end Go.Proofs.YtjjbhjnpeenbkaaGreatDoor
namespace Go.Proofs.YtjjbhjnpeenbkaaGreatDoor
open Go Go.PS Go.Proofs
set_option maxRecDepth 100000
theorem ZeS {n:Nat}{cs:List D}(h:Zbo Tryz.prog (n+1) 3 cs):∃m:Int,cs=[.int m]:=by
 have hu:Tryz.prog.underlying 3=some (.int .i64):=by kernel_rfl
 simp only[Zbo,hu]at h;obtain⟨m,rfl,_⟩:=h;exact⟨m,rfl⟩
theorem Zwf {n:Nat}{cs:List D}(h:Zbo Tryz.prog (n+2) 38 cs):∃l:List Int,cs=[Zab l]/\l.length*8<=140737488351232:=by
 obtain⟨l,rfl,hb,hl⟩:=Zwi (e:=3) (by kernel_rfl) h;obtain⟨ys,rfl⟩:=ZiN (f:=D.int) (l:=l) (λ d hd=>by
  obtain⟨es,rfl,_,he⟩:=hl d hd;obtain⟨p,rfl⟩:=ZeS he;rw[ty3];exact⟨p,rfl⟩)
 refine⟨ys,rfl,?_⟩;have hb3:Tryz.prog.bytesOf 3=8:=by kernel_rfl
 rw[hb3,uD]at hb;exact hb
theorem Zvo {x:D}(h:Zjc Tryz.prog 38 x):∃l:List Int,x=Zab l:=by
 obtain⟨cs,h,rfl⟩:=h;obtain⟨l,rfl,_⟩:=Zwf h;rw[ZDR];exact⟨l,rfl⟩
end Go.Proofs.YtjjbhjnpeenbkaaGreatDoor
