/- The sum of a matrix over any order of a layer (no program in sight). -/
import Derived.Test.YtjjbhjnpeenbkaaGreatDoorN
import Derived.Test.YtjjbhjnpeenbkaaGreatDoorPSMac
import Derived.Test.YtjjbhjnpeenbkaaGreatDoorD
import Derived.Test.YtjjbhjnpeenbkaaGreatDoorTypes
import Derived.Test.YtjjbhjnpeenbkaaGreatDoorPSFam
set_option linter.unusedSimpArgs false
set_option linter.unusedVariables false
set_option maxHeartbeats 16000000
namespace Go.Proofs.YtjjbhjnpeenbkaaGreatDoor
open Go Go.PS Go.Proofs
open Go.Bd (Zam Zgc Zf4 Zoh)
theorem Zm7 {c d:Nat->Nat->Int}:∀{l:List Nat},l.Nodup->(∀u,u∈l->∀v,v∈l->u≠v->c u v=d u v)->Zam c l=Zam d l
 |[],_,_=>rfl
 |u::l,hn,h=>by
  obtain⟨h1,h2⟩:=yZ.1 hn;have e:l.map (c u)=l.map (d u):=yJ λ v hv=>h u (by simp) v (uO _ hv) λ he=>h1 (he▸hv)
  rw[Zam,Zam,e,Zm7 h2 λ u hu v hv=>h u (uO _ hu) v (uO _ hv)]
theorem ZqB (f:Nat->Nat->Pr->Int)(l:List Nat):∀F:List Pr,Zam (λ u v=>w1 (f u v) F) l=w1 (λ y=>Zam (λ u v=>f u v y) l) F
 |[]=>by simp only[w1];exact Zf4 l
 |y::F=>by simp only[w1];rw[Zgc,ZqB f l F]
theorem Ztq (f:Nat->Nat->Pr->Pr->Int)(l:List Nat)(F:List Pr):∀E:List Pr,Zam (λ u v=>W (f u v) F E) l=W (λ x y=>Zam (λ u v=>f u v x y) l) F E
 |[]=>by simp only[W];exact Zf4 l
 |x::E=>by simp only[W];rw[Zgc,ZqB,Ztq f l F E]
theorem Zr0 {own oth:Pr->Int}{P:List Pr}{o:List Nat}{c:Nat->Nat->Int}(hn:o.Nodup)(hin:∀e,e∈P->0<=own e/\(own e).toNat∈o)
  (hc:∀u,u∈o->∀v,v∈o->u≠v->c u v=W (λ x w=>ind (own x=(u:Int)/\own w=(v:Int)/\oth w<oth x)) P P):
  Zam c o=W (λ x w=>ind (o.idxOf (own x).toNat<o.idxOf (own w).toNat/\oth w<oth x)) P P:=by
 rw[Zm7 hn hc,Ztq];refine Zjp λ x hx w hw=>?_
 obtain⟨x1,x2⟩:=hin x hx;obtain⟨y1,y2⟩:=hin w hw;have e:∀u v:Nat,ind (own x=(u:Int)/\own w=(v:Int)/\oth w<oth x)=if u=(own x).toNat/\v=(own w).toNat then ind (oth w<oth x)else 0:=λ u v=>by
  by_cases h:u=(own x).toNat/\v=(own w).toNat
  ·rw[if_pos h];exact Zil ⟨λ h2=>h2.2.2,λ h2=>⟨by omega,by omega,h2⟩⟩
  ·rw[if_neg h];exact ZhJ λ h2=>h (by omega)
 have e2:(λ u v:Nat=>ind (own x=(u:Int)/\own w=(v:Int)/\oth w<oth x))=λ u v=>if u=(own x).toNat/\v=(own w).toNat then ind (oth w<oth x)else 0:=funext λ u=>funext λ v=>e u v
 rw[e2,Zoh _ _ _ o hn x2 y2];by_cases h:o.idxOf (own x).toNat<o.idxOf (own w).toNat
 ·rw[if_pos h];exact Zil ⟨λ h2=>⟨h,h2⟩,λ h2=>h2.2⟩
 ·rw[if_neg h];exact(ZhJ λ h2=>h h2.1).symm
end Go.Proofs.YtjjbhjnpeenbkaaGreatDoor
namespace Go.Proofs.YtjjbhjnpeenbkaaGreatDoor
open Go Go.PS Go.Proofs
open Go.Bd (Zam Part ZfS)
def ZaI (y:List Int)(o:List Nat):List Int:=o.map λ k=>(y[k]?).getD 0
theorem Zmb (y:List Int)(o:List Nat):(ZaI y o).length=o.length:=by simp[ZaI]
theorem ZqW {y:List Int}{o:List Nat}{p:Nat}{v:Int}(hp:p∈o)(h:y[p]? =some v):(ZaI y o)[o.idxOf p]? =some v:=by
 have hl:=List.idxOf_lt_length_iff.2 hp;have hg:o[o.idxOf p]? =some p:=by
  rw[uQ hl,Bc]
 rw[ZaI,uJ,hg,yY,h];rfl
theorem Zpu {y:List Int}{o:List Nat}(h:Part y.length 0 o){v:Int}:v∈ZaI y o↔v∈y:=by
 constructor
 ·intro hv;obtain⟨k,hk,rfl⟩:=uN.1 hv;have:=h.lt k hk;rw[uQ this];exact jR this
 ·intro hv;obtain⟨p,hp⟩:=yV hv;have hlt:=(uB.1 hp).1;have:=ZqW (ZfS y.length h.nd h.lt (by have:=h.len;omega) p hlt) hp;exact uA this
theorem Zrg {y:List Int}{o:List Nat}(hy:y.Nodup)(h:Part y.length 0 o):(ZaI y o).Nodup:=by
 refine List.pairwise_map.2 (h.nd.imp_of_mem λ{a b} ha hb hne he=>hne ?_);have h1:=h.lt a ha;have h2:=h.lt b hb;rw[uQ h1,uQ h2]at he;exact(List.getElem_inj hy).1 he
theorem Zry {y:List Int}{o:List Nat}(hy:y.Nodup)(h:Part y.length 0 o)(v:Int):placeF (ZaI y o) v=if 0<=placeF y v then((o.idxOf (placeF y v).toNat:Nat):Int)else -1:=by
 by_cases hv:v∈y
 ·obtain⟨p,hp⟩:=yV hv;have hlt:=(uB.1 hp).1;rw[Zin (Zrg hy h) (ZqW (ZfS y.length h.nd h.lt (by have:=h.len;omega) p hlt) hp),Zin hy hp,if_pos (by omega),uL]
 ·rw[Zi0 (λ h2=>hv ((Zpu h).1 h2)),Zi0 hv,if_neg (by omega)]
theorem Zy4 {y z:List Int}{o:List Nat}(hy:y.Nodup)(h:Part y.length 0 o)(ar:List Arc):Zbw (ZaI y o) z ar=(Zbw y z ar).map λ e=>(((o.idxOf e.1.toNat:Nat):Int),e.2):=by
 rw[Zbw,Zbw,List.map_flatMap]
 congr 1
 funext x
 rw[ZfQ,ZfQ,Zry hy h];by_cases c:0<=placeF y x.1
 ·rw[if_pos c];by_cases c2:0<=placeF z x.2
  ·rw[if_pos ⟨by omega,c2⟩,if_pos ⟨c,c2⟩];rfl
  ·rw[if_neg (λ h=>c2 h.2),if_neg (λ h=>c2 h.2)];rfl
 ·rw[if_neg c,if_neg (λ h=>by omega),if_neg (λ h=>c h.1)];rfl
theorem Zt0 {y z:List Int}{o:List Nat}(hz:z.Nodup)(h:Part z.length 0 o)(ar:List Arc):Zbw y (ZaI z o) ar=(Zbw y z ar).map λ e=>(e.1,((o.idxOf e.2.toNat:Nat):Int)):=by
 rw[Zbw,Zbw,List.map_flatMap]
 congr 1
 funext x
 rw[ZfQ,ZfQ,Zry hz h];by_cases c:0<=placeF y x.1
 ·by_cases c2:0<=placeF z x.2
  ·rw[if_pos c2,if_pos ⟨c,by omega⟩,if_pos ⟨c,c2⟩];rfl
  ·rw[if_neg c2,if_neg (λ h=>by omega),if_neg (λ h=>c2 h.2)];rfl
 ·rw[if_neg (λ h=>c h.1),if_neg (λ h=>c h.1)];rfl
theorem Near.perm_up {a a':Lv}{i:Nat}{y z:List Int}{o:List Nat}(h:Near a i y z)(h':Near a' i (ZaI y o) z)(har:a'.2.2.1=a.2.2.1)(ho:Part y.length 0 o):
  Zb2 a' i=Zam (λ u v=>Zai (ZaR a i ((i:Int)+1)) u v) o:=by
 have hy:y.Nodup:=(jD.1 (Ze0 h.ok)).1 y (uA h.hy);have hin:=h.ins;rw[h'.between,Near.cr,har,Zy4 hy ho,ZlN];rw[Zr0 (own:=λ e=>e.1) (oth:=λ e=>e.2) (P:=Zbw y z a.2.2.1) ho.nd (λ e he=>⟨(hin e he).1,ZfS y.length ho.nd ho.lt (by have:=ho.len;omega) _ (by have:=hin e he;omega)⟩)
  (λ u hu v hv hne=>by rw[h.cellD (ho.lt u hu) (ho.lt v hv),if_neg hne])]
 exact Zjp λ x _ w _=>Zil ⟨λ h2=>⟨by have:=h2.1;dsimp only at this;omega,h2.2⟩,λ h2=>⟨by have:=h2.1;dsimp only;omega,h2.2⟩⟩
theorem Near.perm_dn {a a':Lv}{i:Nat}{y z:List Int}{o:List Nat}(h:Near a i y z)(h':Near a' i y (ZaI z o))(har:a'.2.2.1=a.2.2.1)(ho:Part z.length 0 o):
  Zb2 a' i=Zam (λ u v=>Zai (ZaR a ((i:Int)+1) i) u v) o:=by
 have hz:z.Nodup:=(jD.1 (Ze0 h.ok)).1 z (uA h.hz);have hin:=h.ins;rw[h'.between,Near.cr,har,Zt0 hz ho,ZlN,ZqN];rw[Zr0 (own:=λ e=>e.2) (oth:=λ e=>e.1) (P:=Zbw y z a.2.2.1) ho.nd (λ e he=>⟨(hin e he).2.2.1,ZfS z.length ho.nd ho.lt (by have:=ho.len;omega) _ (by have:=hin e he;omega)⟩)
  (λ u hu v hv hne=>by rw[h.cellU (ho.lt u hu) (ho.lt v hv),if_neg hne])]
 exact Zjp λ x _ w _=>Zil ⟨λ h2=>⟨by have:=h2.2;dsimp only at this;omega,h2.1⟩,λ h2=>⟨h2.2,by have:=h2.1;dsimp only;omega⟩⟩
end Go.Proofs.YtjjbhjnpeenbkaaGreatDoor
namespace Go.Proofs.YtjjbhjnpeenbkaaGreatDoor
open Go Go.PS Go.Proofs
open Go.Bd (Zam Zgc Zf4 Part ZfS)
def ZbP (a:Lv)(i:Nat)(y:List Int):Lv:=(a.1,a.2.1.set i y,a.2.2.1,a.2.2.2)
theorem Zr2 (n:Nat):Part n 0 (List.range n):=⟨Aa,λ v hv=>yA.1 hv,by simp⟩
theorem ZuW (y:List Int):ZaI y (List.range y.length)=y:=by
 refine qI λ k=>?_
 rw[ZaI,uJ];by_cases h:k<y.length
 ·rw[qM h,yY,uQ h];rfl
 ·rw[uP (by simpa using h),uP (by omega)];rfl
def ZhH (a:Lv)(i:Nat)(u v:Nat):Int:=Zai (ZaR a i ((i:Int)-1)) u v+Zai (ZaR a i ((i:Int)+1)) u v
theorem Ztx {f g:Nat->Int}(i:Nat)(h:∀j,j≠i->j+1≠i->f j=g j):∀n,ZaF f n=ZaF g n+(if i<n then f i-g i else 0)+(if 0<i/\i<=n then f (i-1)-g (i-1)else 0)
 |0=>by simp only[ZaF];rw[if_neg (by omega),if_neg (by omega)];rfl
 |n+1=>by
  rw[ZaF,ZaF,Ztx i h n];by_cases c1:n=i
  ·subst c1
   (repeat' split)<;>omega
  ·by_cases c2:n+1=i
   ·subst c2;simp only[kB]
    (repeat' split)<;>omega
   ·rw[h n c1 c2]
    (repeat' split)<;>omega
theorem Zk2 {a:Lv}{j:Nat}(h:¬j+1<a.2.1.length):Zb2 a j=0:=by
 rw[Zb2,if_pos (by simp only[ZlA,uE];omega)]
theorem ZuA {a:Lv}{i:Nat}{y:List Int}{o:List Nat}(hv:Zaq a=true)(hv':Zaq (ZbP a i (ZaI y o))=true)(hy:a.2.1[i]? =some y)(ho:Part y.length 0 o):
  Za7 (ZbP a i (ZaI y o))-Za7 a=Zam (ZhH a i) o-Zam (ZhH a i) (List.range y.length):=by
 have hil:=(uB.1 hy).1;have hlen:(ZbP a i (ZaI y o)).2.1.length=a.2.1.length:=yI;have hget:∀j,j≠i->(ZbP a i (ZaI y o)).2.1[j]? =a.2.1[j]? :=λ j hj=>kD (Ne.symm hj)
 have hget2:(ZbP a i (ZaI y o)).2.1[i]? =some (ZaI y o):=jS hil;have hrp:=Zr2 y.length;have hpr:=ZuW y
 have he:∀j:Nat,j≠i->j+1≠i->Zb2 (ZbP a i (ZaI y o)) j=Zb2 a j:=λ j h1 h2=>by
  by_cases c:j+1<a.2.1.length
  ·obtain⟨p,q,hn⟩:=ZlW hv c;have hn':Near (ZbP a i (ZaI y o)) j p q:=⟨hv',(hget j h1).trans hn.hy,(hget (j+1) h2).trans hn.hz⟩;rw[hn.between,hn'.between];rfl
  ·rw[Zk2 c,Zk2 (by rw[hlen];exact c)]
 have hup:Zb2 (ZbP a i (ZaI y o)) i-Zb2 a i=Zam (Zai (ZaR a i ((i:Int)+1))) o-Zam (Zai (ZaR a i ((i:Int)+1))) (List.range y.length):=by
  by_cases c:i+1<a.2.1.length
  ·obtain⟨p,z,hn⟩:=ZlW hv c;obtain rfl:p=y:=by have:=hn.hy;rw[hy]at this;cases this;rfl
   have hn':Near (ZbP a i (ZaI p o)) i (ZaI p o) z:=⟨hv',hget2,(hget (i+1) (by omega)).trans hn.hz⟩;have hn0:Near a i (ZaI p (List.range p.length)) z:=by rw[hpr];exact hn
   rw[hn.perm_up hn' rfl ho,hn.perm_up hn0 rfl hrp]
  ·have hm:ZaR a i ((i:Int)+1)=[]:=by
    rw[ZaR,if_neg];intro hh;simp only[Zej,uK,uE]at hh;omega
   have hz:Zai (ZaR a i ((i:Int)+1))=λ _ _=>0:=by funext u v;rw[hm];rfl
   rw[hz,Zf4,Zf4,Zk2 c,Zk2 (by rw[hlen];exact c)]
 have hdn:(if 0<i/\i<=a.2.1.length then Zb2 (ZbP a i (ZaI y o)) ((i-1:Nat):Int)-Zb2 a ((i-1:Nat):Int)else 0)=
   Zam (Zai (ZaR a i ((i:Int)-1))) o-Zam (Zai (ZaR a i ((i:Int)-1))) (List.range y.length):=by
  by_cases c:0<i
  ·obtain⟨k,rfl⟩:∃k,i=k+1:=⟨i-1,by omega⟩;rw[if_pos ⟨c,by omega⟩,kB,show((k+1:Nat):Int)-1=(k:Int) by omega,show((k+1:Nat):Int)=(k:Int)+1 by omega];obtain⟨x,p,hn⟩:=ZlW hv (i:=k) (by omega);obtain rfl:p=y:=by have:=hn.hz;rw[hy]at this;cases this;rfl
   have hn':Near (ZbP a (k+1) (ZaI p o)) k x (ZaI p o):=⟨hv',(hget k (by omega)).trans hn.hy,hget2⟩;have hn0:Near a k x (ZaI p (List.range p.length)):=by rw[hpr];exact hn
   rw[hn.perm_dn hn' rfl ho,hn.perm_dn hn0 rfl hrp]
  ·obtain rfl:i=0:=by omega
   have hm:ZaR a ((0:Nat):Int) (((0:Nat):Int)-1)=[]:=by
    rw[ZaR,if_neg];intro hh;simp only[Zej,uK,uE]at hh;omega
   have hz:Zai (ZaR a ((0:Nat):Int) (((0:Nat):Int)-1))=λ _ _=>0:=by funext u v;rw[hm];rfl
   rw[hz,Zf4,Zf4,if_neg (by omega)];rfl
 have hb:ZhH a i=λ u v=>Zai (ZaR a i ((i:Int)-1)) u v+Zai (ZaR a i ((i:Int)+1)) u v:=rfl
 rw[Za7,Za7,hlen,Ztx i he a.2.1.length,if_pos hil,hdn,hup,hb,Zgc,Zgc];omega
end Go.Proofs.YtjjbhjnpeenbkaaGreatDoor
namespace Go.Proofs.YtjjbhjnpeenbkaaGreatDoor
open Go Go.PS Go.Proofs
set_option maxRecDepth 100000
theorem Zc0 {n:Nat}{cs:List D}(h:Zba Tryz.prog (n+1) 3 cs):∃m:Int,cs=[.int m]:=by
 have hu:Tryz.prog.underlying 3=some (.int .i64):=by kernel_rfl
 simp only[Zba,hu]at h;obtain⟨m,rfl,_⟩:=h;exact⟨m,rfl⟩
theorem Zzm {n:Nat}{cs:List D}(h:Zba Tryz.prog (n+2) 38 cs):∃l:List Int,cs=[Zab l]/\l.length*8<=140737488351232:=by
 obtain⟨l,rfl,hb,hl⟩:=ZyB (e:=3) (by kernel_rfl) h;obtain⟨ys,rfl⟩:=ZhY (f:=D.int) (l:=l) (λ d hd=>by
  obtain⟨es,rfl,_,he⟩:=hl d hd;obtain⟨p,rfl⟩:=Zc0 he;rw[ty3];exact⟨p,rfl⟩)
 refine⟨ys,rfl,?_⟩;have hb3:Tryz.prog.bytesOf 3=8:=by kernel_rfl
 rw[hb3,uD]at hb;exact hb
theorem ZxW {x:D}(h:ZiC Tryz.prog 38 x):∃l:List Int,x=Zab l:=by
 obtain⟨cs,h,rfl⟩:=h;obtain⟨l,rfl,_⟩:=Zzm h;rw[Zws];exact⟨l,rfl⟩
end Go.Proofs.YtjjbhjnpeenbkaaGreatDoor
namespace Go.Proofs.YtjjbhjnpeenbkaaGreatDoor.Gr
open Go Go.PS Go.Proofs
set_option maxRecDepth 100000
attribute [local irreducible] Zac wpG Zaa Zag
abbrev Zbg (s:ByteArray):D:= .sc (.string s)
def ZjJ (c:Int):Bool:=(decide (97<=c)&&decide (c<=122))||(decide (65<=c)&&decide (c<=90))||decide (c=95)
def Zjt (c:Int):Bool:=decide (48<=c)&&decide (c<=57)
theorem ZAu (c:Int):Zaa Tryz.prog 199 [.sc (.int .u8 c)] (.bool (ZjJ c)):=by
 refine kE Tryz.func199 ?_;intro hat B X w0;refine kw kO kc0 kc0 ?_
 repeat' first|exact True.intro|refine Bn.mk ?_ ?_|intro hc
 all_goals
  refine Zaj ?_;rw[gO];simp[ZjJ]
  try omega
theorem Zwd (c:Int):Zaa Tryz.prog 200 [.sc (.int .u8 c)] (.bool (Zjt c)):=by
 refine kE Tryz.func200 ?_;intro hat B X w0;refine kw kO kc0 kc0 ?_
 repeat' first|exact True.intro|refine Bn.mk ?_ ?_|intro hc
 all_goals
  refine Zaj ?_;rw[gO];simp[Zjt]
  try omega
def Zhw (s:ByteArray)(n:Nat):Bool:=decide (n<s.size)&&(ZjJ ((ZcO s).getD n 0)||(decide (0<n)&&Zjt ((ZcO s).getD n 0)))
def Zll (s:ByteArray):Nat:=((List.range (s.size+1)).findIdx? λ n=> !Zhw s n).getD 0
theorem ZAm {s:ByteArray}{n:Nat}(h:∀j,j<n->Zhw s j=true)(hn:Zhw s n=false)(hl:n<=s.size):Zll s=n:=by
 rw[Zll,ZeO (k:=n) (qM (by omega)) (by rw[hn];rfl) (λ j y hj hy=>by
  rw[qM (by omega)]at hy;cases hy;rw[h j hj];rfl)]
 rfl
theorem ZuS (s:ByteArray)(hs:s.size<=1000000):Zaa Tryz.prog 147 [Zbg s] (.int (Zll s)):=by
 have h1:=ZAu;have h2:=Zwd;refine kE Tryz.func147 ?_;intro hat B X w0;refine kw1 kO kc0 kc0 ?_;refine Zaf (λ(n:Nat)=>n<=s.size/\∀j,j<n->Zhw s j=true) (λ n=>[(0, .d (Zbg s)),(3, .int n)]) (λ n=>[]) (λ n=>s.size-n) 0 ?_ ?_ ?_
 ·exact⟨uI _,λ j h=>by omega⟩
 ·exact kN kc0 []
 ·rintro n ⟨hn,hinv⟩;have hg:=λ h=>ZAm hinv h hn
  rcases uF n s.size with hlt|hge
  ·generalize hb:(ZcO s).getD n 0=b;have e:Zhw s n=(ZjJ b||(decide (0<n)&&Zjt b)):=by rw[Zhw,hb,yN hlt,kJ]
   have h1b:=h1 b;have h2b:=h2 b;rcases c1:ZjJ b with _|_<;>rw[c1]at h1b e
   ·by_cases c0:0<n
    ·have c0':(0:Int)<n:=by omega
     rw[yN c0]at e;rcases c2:Zjt b with _|_<;>rw[c2]at h2b e
     ·refine kw1 kO (kc2 hb @c0') (kc2 h1b h2b) ?_;exact Zah (by rw[hg e])
     ·refine kw1 kO (kc2 hb @c0') (kc2 h1b h2b) ?_;refine⟨n+1,?_,kN kc0 [],?_⟩
      ·exact⟨hlt,λ j hj=>by rcases uF j n with h|h;exact hinv j h;rw[show j=n by omega];exact e⟩
      ·omega
    ·have c0':¬(0:Int)<n:=by omega
     rw[yE c0]at e;refine kw1 kO (kc2 hb @c0') (kc1 h1b) ?_;exact Zah (by rw[hg e])
   ·refine kw1 kO (kc1 hb) (kc1 h1b) ?_;refine⟨n+1,?_,kN kc0 [],?_⟩
    ·exact⟨hlt,λ j hj=>by rcases uF j n with h|h;exact hinv j h;rw[show j=n by omega];exact e⟩
    ·omega
  ·refine kw1 kO kc0 kc0 ?_;exact Zah (by rw[hg (by simp[Zhw];omega)])
def ZlK (s:ByteArray):Bool:=decide (s=⟨#[100,105,103,114,97,112,104]⟩)||decide (s=⟨#[103,114,97,112,104]⟩)||decide (s=⟨#[110,111,100,101]⟩)||decide (s=⟨#[101,100,103,101]⟩)||decide (s=⟨#[115,101,116]⟩)||decide (s=⟨#[99,108,117,115,116,101,114]⟩)
theorem Zzj (s:ByteArray):Zaa Tryz.prog 148 [Zbg s] (.bool (ZlK s)):=by
 refine kE Tryz.func148 ?_;intro hat B X w0
 repeat' first|refine Zbt rfl ?_|refine ZaX ?_|refine wR ?_|(refine Zbv rfl rfl (λ hc=>?_) (λ hc=>?_)<;>try simp only[hcL]at hc)|(refine Zbx _ rfl rfl (λ hc=>?_) (λ hc=>?_)<;>(try simp only[hcL]at hc)<;>try omega)|simp(disch:=omega) only[go_sem,simprocAttr]|apply And.intro|omega|decide+kernel
 all_goals
  refine Zaj ?_
  simp_all [ZlK]
def ZdY (s:ByteArray):Bool:=decide (s≠⟨#[]⟩)&&decide (s.size<=16)&&decide (Zll s=s.size)&& !ZlK s
theorem Zls (s:ByteArray)(hs:s.size<=1000000):Zaa Tryz.prog 90 [Zbg s] (.bool (ZdY s)):=by
 have h1:=ZuS s hs;have h2:=Zzj s;refine kE Tryz.func90 ?_;intro hat B X w0;refine kw kO kc0 (kc2 h1 h2) ?_
 repeat' first|exact True.intro|refine Bn.mk ?_ ?_|intro hc
 all_goals
  refine Zaj ?_;rw[gO];simp[ZdY]
  first|done|omega|(intro _;exact⟨⟨by assumption,by omega⟩,by omega⟩)|(intros;contradiction)
structure Pt where
 nm:ByteArray
 sd:Int
structure Nd where
 nm:ByteArray
 lb:ByteArray
 w:Int
 h:Int
 cl:Int
 ps:List Pt
structure Ed where
 fr:Int
 to:Int
 fp:Int
 tp:Int
 lb:ByteArray
 wt:Int
 ln:Int
structure Cl where
 nm:ByteArray
 pa:Int
structure Gph where
 nm:ByteArray
 dir:Bool
 ns:List Nd
 es:List Ed
 cs:List Cl
abbrev ptD (p:Pt):D:= .ag [Zbg p.nm, .int p.sd]
abbrev ndD (n:Nd):D:= .ag [Zbg n.nm,Zbg n.lb, .int n.w, .int n.h, .int n.cl, .sl (n.ps.map ptD)]
abbrev edD (e:Ed):D:= .ag [.int e.fr, .int e.to, .int e.fp, .int e.tp,Zbg e.lb, .int e.wt, .int e.ln]
abbrev clD (c:Cl):D:= .ag [Zbg c.nm, .int c.pa]
abbrev ZbU (g:Gph):D:= .ag [Zbg g.nm, .bool g.dir, .sl (g.ns.map ndD), .sl (g.es.map edD), .sl (g.cs.map clD)]
def fe (f:Nat->Int):Nat->Int
 |0=>0
 |k+1=>if fe f k=0 then f k else fe f k
theorem Zkn {f:Nat->Int}{k:Nat}(h:fe f k=0)(hk:f k=0):fe f (k+1)=0:=by rw[fe,if_pos h,hk]
theorem Zhv {f:Nat->Int}{k:Nat}(h:fe f k=0)(hk:f k≠0):∀n,k<n->fe f n=f k:=by
 intro n
 induction n with
 |zero=>intro hn;omega
 |succ n ih=>
  intro hn;rw[fe];rcases uF k n with h1|h1
  ·rw[ih h1,if_neg hk]
  ·rw[show n=k by omega,if_pos h]
theorem ZnA {f:Nat->Int}:∀{n:Nat},fe f n=0->∀k,k<n->f k=0:=by
 intro n
 induction n with
 |zero=>intro _ k hk;omega
 |succ n ih=>
  intro h k hk;rw[fe]at h;by_cases h0:fe f n=0
  ·rw[if_pos h0]at h;rcases uF k n with h1|h1
   ·exact ih h0 k h1
   ·rw[show k=n by omega];exact h
  ·rw[if_neg h0]at h;exact absurd h h0
theorem ZAa (l:List Nd)(g:Nat)(caps:List D)(p:Nd->Bool)(hp:∀x,Zaa Tryz.prog g (ndD x::caps) (.bool (p x))):Zaa Tryz.prog 201 [.sl (l.map ndD), .fn g caps] (.int (ZcT (l.findIdx? p))):=by
 refine kE Tryz.func201 ?_;intro hat B X w0;have hl:=ZaU 0 hat rfl;rw[uD]at hl;refine kw1 kO kc0 kc0 ?_;refine Zaf (λ(k:Nat)=>k<=l.length/\∀(j:Nat) y,j<k->l[j]? =some y->p y=false) (λ k=>[(0, .d (.sl (l.map ndD))),(1, .d (.fn g caps)),(7, .int l.length),(8, .int k)]) (λ k=>[]) (λ k=>l.length-k) 0 ?_ ?_ ?_
 ·exact⟨uI _,λ j y h=>by omega⟩
 ·exact kN kc0 []
 ·rintro k ⟨hk,hinv⟩;rcases uF k l.length with hlt|hge
  ·obtain⟨x,hx⟩:=Zad hlt;have hpx:=hp x;rcases hb:p x with _|_<;>rw[hb]at hpx
   ·refine kw1 kO (kc1 hx) (kc1 (kcc [ndD x] caps hpx)) ?_;refine⟨k+1,?_,kN kc0 [],?_⟩
    ·exact⟨by omega,Zbe hinv hx hb⟩
    ·omega
   ·refine kw1 kO (kc1 hx) (kc1 (kcc [ndD x] caps hpx)) ?_;refine Zah ?_;rw[ZeO hx hb hinv];rfl
  ·refine kw1 kO kc0 kc0 ?_;refine Zah ?_;rw[Zfm (λ j y hy=>hinv j y (by have:=(uB.1 hy).1;omega) hy)];rfl
theorem ZwE (l:List Pt)(g:Nat)(caps:List D)(p:Pt->Bool)(hp:∀x,Zaa Tryz.prog g (ptD x::caps) (.bool (p x))):Zaa Tryz.prog 235 [.sl (l.map ptD), .fn g caps] (.int (ZcT (l.findIdx? p))):=by
 refine kE Tryz.func235 ?_;intro hat B X w0;have hl:=ZaU 0 hat rfl;rw[uD]at hl;refine kw1 kO kc0 kc0 ?_;refine Zaf (λ(k:Nat)=>k<=l.length/\∀(j:Nat) y,j<k->l[j]? =some y->p y=false) (λ k=>[(0, .d (.sl (l.map ptD))),(1, .d (.fn g caps)),(7, .int l.length),(8, .int k)]) (λ k=>[]) (λ k=>l.length-k) 0 ?_ ?_ ?_
 ·exact⟨uI _,λ j y h=>by omega⟩
 ·exact kN kc0 []
 ·rintro k ⟨hk,hinv⟩;rcases uF k l.length with hlt|hge
  ·obtain⟨x,hx⟩:=Zad hlt;have hpx:=hp x;rcases hb:p x with _|_<;>rw[hb]at hpx
   ·refine kw1 kO (kc1 hx) (kc1 (kcc [ptD x] caps hpx)) ?_;refine⟨k+1,?_,kN kc0 [],?_⟩
    ·exact⟨by omega,Zbe hinv hx hb⟩
    ·omega
   ·refine kw1 kO (kc1 hx) (kc1 (kcc [ptD x] caps hpx)) ?_;refine Zah ?_;rw[ZeO hx hb hinv];rfl
  ·refine kw1 kO kc0 kc0 ?_;refine Zah ?_;rw[Zfm (λ j y hy=>hinv j y (by have:=(uB.1 hy).1;omega) hy)];rfl
theorem Zvx (l:List Cl)(g:Nat)(caps:List D)(p:Cl->Bool)(hp:∀x,Zaa Tryz.prog g (clD x::caps) (.bool (p x))):Zaa Tryz.prog 205 [.sl (l.map clD), .fn g caps] (.int (ZcT (l.findIdx? p))):=by
 refine kE Tryz.func205 ?_;intro hat B X w0;have hl:=ZaU 0 hat rfl;rw[uD]at hl;refine kw1 kO kc0 kc0 ?_;refine Zaf (λ(k:Nat)=>k<=l.length/\∀(j:Nat) y,j<k->l[j]? =some y->p y=false) (λ k=>[(0, .d (.sl (l.map clD))),(1, .d (.fn g caps)),(7, .int l.length),(8, .int k)]) (λ k=>[]) (λ k=>l.length-k) 0 ?_ ?_ ?_
 ·exact⟨uI _,λ j y h=>by omega⟩
 ·exact kN kc0 []
 ·rintro k ⟨hk,hinv⟩;rcases uF k l.length with hlt|hge
  ·obtain⟨x,hx⟩:=Zad hlt;have hpx:=hp x;rcases hb:p x with _|_<;>rw[hb]at hpx
   ·refine kw1 kO (kc1 hx) (kc1 (kcc [clD x] caps hpx)) ?_;refine⟨k+1,?_,kN kc0 [],?_⟩
    ·exact⟨by omega,Zbe hinv hx hb⟩
    ·omega
   ·refine kw1 kO (kc1 hx) (kc1 (kcc [clD x] caps hpx)) ?_;refine Zah ?_;rw[ZeO hx hb hinv];rfl
  ·refine kw1 kO kc0 kc0 ?_;refine Zah ?_;rw[Zfm (λ j y hy=>hinv j y (by have:=(uB.1 hy).1;omega) hy)];rfl
theorem Zza (l:List Pt)(g:Nat)(caps:List D)(p:Pt->Bool)(hp:∀x,Zaa Tryz.prog g (ptD x::caps) (.bool (p x))):Zaa Tryz.prog 203 [.sl (l.map ptD), .fn g caps] (.bool (l.any p)):=by
 have h:=ZwE l g caps p hp;refine kE Tryz.func203 ?_;intro hat B X w0;refine kw1 kO kc0 (kc1 h) ?_;exact Zaj (Zhs p l)
theorem ZvI (l:List Cl)(g:Nat)(caps:List D)(p:Cl->Bool)(hp:∀x,Zaa Tryz.prog g (clD x::caps) (.bool (p x))):Zaa Tryz.prog 153 [.sl (l.map clD), .fn g caps] (.bool (l.any p)):=by
 have h:=Zvx l g caps p hp;refine kE Tryz.func153 ?_;intro hat B X w0;refine kw1 kO kc0 (kc1 h) ?_;exact Zaj (Zhs p l)
theorem ZxQ (n:Nd)(s:ByteArray):Zaa Tryz.prog 202 [ndD n, .pt [Zbg s]] (.bool (decide (n.nm=s))):=by
 refine kE Tryz.func202 ?_;intro hat B X w0;refine kw1 kO kc0 kc0 ?_;exact Zaj rfl
theorem ZxU (c:Cl)(s:ByteArray)(k:Int):Zaa Tryz.prog 154 [clD c, .pt [Zbg s, .int k]] (.bool (decide (c.nm=s))):=by
 refine kE Tryz.func154 ?_;intro hat B X w0;refine kw1 kO kc0 kc0 ?_;exact Zaj rfl
theorem Zym (c:Pt)(s:ByteArray)(k:Int):Zaa Tryz.prog 204 [ptD c, .pt [Zbg s, .int k]] (.bool (decide (c.nm=s))):=by
 refine kE Tryz.func204 ?_;intro hat B X w0;refine kw1 kO kc0 kc0 ?_;exact Zaj rfl
def Zha (g:Gph)(s:ByteArray):Int:=ZcT (g.ns.findIdx? λ n=>decide (n.nm=s))
theorem ZlD (g:Gph)(s:ByteArray):Zaa Tryz.prog 149 [ZbU g,Zbg s] (.int (Zha g s)):=by
 have h:=ZAa g.ns 202 [.pt [Zbg s]] (λ n=>decide (n.nm=s)) (λ x=>ZxQ x s);refine kE Tryz.func149 ?_;intro hat B X w0;refine kw1 kO kc0 (kc1 h) ?_;exact Zah rfl
def Zc6 (c:Int):Bool:=decide (c<32)||decide (126<c)
def Zfh (s:ByteArray):Int:=if 32<s.size then 2 else if(ZcO s).any Zc6 then 7 else 0
theorem Zvc {s:ByteArray}{k:Nat}(h:k<s.size):(ZcO s)[k]? =some ((ZcO s).getD k 0):=by
 have:=Zfp s;rw[gR,uQ (by omega)];rfl
theorem ZrL (s:ByteArray):Zaa Tryz.prog 150 [Zbg s] (.int (Zfh s)):=by
 have hbl:=Zfp s;have hbd:(Zc4 s).length=s.size:=by rw[Zc4,uD,hbl]
 rw[Zfh];by_cases h32:32<s.size
 ·rw[if_pos h32];refine kE Tryz.func150 ?_;intro hat B X w0;refine kw1 kO kc0 kc0 ?_;exact Zah rfl
 ·rw[if_neg h32];refine kE Tryz.func150 ?_;intro hat B X w0;refine kw1 kO (kc1 hbd) kc0 ?_;refine Zaf (λ(k:Nat)=>k<=s.size/\∀(j:Nat) y,j<k->(ZcO s)[j]? =some y->Zc6 y=false) (λ k=>[(9, .d (.sl (Zc4 s))),(10, .int s.size),(11, .int k)]) (λ k=>[]) (λ k=>s.size-k) 0 ?_ ?_ ?_
  ·exact⟨uI _,λ j y h=>by omega⟩
  ·exact kN kc0 []
  ·rintro k ⟨hk,hinv⟩;rcases uF k s.size with hlt|hge
   ·have hx:=Zvc hlt;generalize(ZcO s).getD k 0=c at hx;have hd:(Zc4 s)[k]? =some (.sc (.int .u8 c)):=by rw[Zc4,uJ,hx];rfl
    by_cases h1:c<32
    ·refine kw1 kO (kc3 hd hbd h1) kc0 ?_;refine Zah ?_;rw[if_pos (Zb8 (q:=Zc6) hx (by rw[Zc6,yN h1];rfl))]
    ·by_cases h2:126<c
     ·refine kw1 kO (kc4 hd hbd h1 h2) kc0 ?_;refine Zah ?_;rw[if_pos (Zb8 (q:=Zc6) hx (by rw[Zc6,yN h2,Bool.or_true]))]
     ·refine kw1 kO (kc4 hd hbd h1 h2) kc0 ?_;refine⟨k+1,?_,kN kc0 [],?_⟩
      ·exact⟨hlt,Zbe hinv hx (by rw[Zc6,yE h1,yE h2];rfl)⟩
      ·omega
   ·refine kw1 kO kc0 kc0 ?_;refine Zah ?_;rw[if_neg (by rw[Zcq (q:=Zc6) (λ j y hj=>hinv j y (by omega))];decide)]
def Zd5 (n:Int):Bool:=decide (1<=n)&&decide (n<=1048576)
theorem Zjv (n:Int):Zaa Tryz.prog 151 [.int n] (.bool (Zd5 n)):=by
 refine kE Tryz.func151 ?_;intro hat B X w0;refine kw kO kc0 kc0 ?_
 repeat' first|exact True.intro|refine Bn.mk ?_ ?_|intro hc
 all_goals
  refine Zaj ?_;rw[gO];simp[Zd5]
  try omega
def Zlg (l:List Pt)(i:Nat):Int:=match l[i]? with
 |none=>0
 |some p=>if ZdY p.nm=false then 5 else if(l.take i).any (λ q=>decide (q.nm=p.nm))then 6 else if p.sd<0\/3<p.sd then 7 else 0
def Zkm (l:List Pt):Int:=if 8<l.length then 2 else fe (Zlg l) l.length
theorem ZB5 {l:List Pt}{i:Nat}{p:Pt}(h:l[i]? =some p):Zlg l i=if ZdY p.nm=false then 5 else if(l.take i).any (λ q=>decide (q.nm=p.nm))then 6 else if p.sd<0\/3<p.sd then 7 else 0:=by rw[Zlg,h]
theorem Zv8 (l:List Pt)(hn:∀p∈l,p.nm.size<=1000000):Zaa Tryz.prog 152 [.sl (l.map ptD)] (.int (Zkm l)):=by
 rw[Zkm];by_cases h8:8<l.length
 ·rw[if_pos h8];refine kE Tryz.func152 ?_;intro hat B X w0;refine kw1 kO kc0 kc0 ?_;exact Zah rfl
 ·rw[if_neg h8];refine kE Tryz.func152 ?_;intro hat B X w0;refine kw1 kO kc0 kc0 ?_;refine Zaf (λ(k:Nat)=>k<=l.length/\fe (Zlg l) k=0) (λ k=>[(0, .d (.sl (l.map ptD))),(8, .d (.sl (l.map ptD))),(9, .int l.length),(10, .int k)]) (λ k=>[]) (λ k=>l.length-k) 0 ?_ ?_ ?_
  ·exact⟨uI _,rfl⟩
  ·exact kN kc0 []
  ·rintro k ⟨hk,hinv⟩;rcases uF k l.length with hlt|hge
   ·obtain⟨p,hp⟩:=Zad hlt;have e:=ZB5 hp;have h1:=Zls p.nm (hn p (uA hp));have h2:=Zza (l.take k) 204 [.pt [Zbg p.nm, .int p.sd]] (λ q=>decide (q.nm=p.nm)) (λ x=>Zym x p.nm p.sd);have hlt':(l.take k).map ptD=(l.map ptD).take k:=Ai;rw[hlt']at h2;rcases c1:ZdY p.nm with _|_<;>rw[c1]at h1 e
    ·rw[if_pos rfl]at e;refine kw1 kO (kc1 hp) (kc1 h1) ?_;exact Zah (by rw[Zhv hinv (by rw[e];decide) _ hlt,e])
    ·rw[if_neg (by decide)]at e;rcases c2:(l.take k).any (λ q=>decide (q.nm=p.nm))with _|_<;>rw[c2]at h2 e
     ·rw[if_neg (by decide)]at e;by_cases c3:p.sd<0
      ·rw[if_pos (.inl c3)]at e;refine kw kO (kc2 hp c3) (kc2 h1 h2) ?_
       repeat' first|exact True.intro|refine Bn.mk ?_ ?_|intro hc
       exact Zah (by rw[Zhv hinv (by rw[e];decide) _ hlt,e])
      ·by_cases c4:3<p.sd
       ·rw[if_pos (.inr c4)]at e;refine kw kO (kc3 hp c3 c4) (kc2 h1 h2) ?_
        repeat' first|exact True.intro|refine Bn.mk ?_ ?_|intro hc
        exact Zah (by rw[Zhv hinv (by rw[e];decide) _ hlt,e])
       ·rw[if_neg (by omega)]at e;refine kw kO (kc3 hp c3 c4) (kc2 h1 h2) ?_
        repeat' first|exact True.intro|refine Bn.mk ?_ ?_|intro hc
        refine⟨k+1,?_,eL [] _ _ (by refine⟨?_,?_⟩<;>(repeat' first|exact fmn|refine fmc ⟨(by first|rfl|(simp(disch:=omega) only[go_sem,simprocAttr,inL];first|done|omega|(congr 1;done))),?_⟩);done),?_⟩
        ·exact⟨hlt,Zkn hinv e⟩
        ·omega
     ·rw[if_pos rfl]at e;refine kw kO (kc1 hp) (kc2 h1 h2) ?_
      repeat' first|exact True.intro|refine Bn.mk ?_ ?_|intro hc
      exact Zah (by rw[Zhv hinv (by rw[e];decide) _ hlt,e])
   ·refine kw1 kO kc0 kc0 ?_;exact Zah (by rw[show l.length=k by omega,hinv])
structure Mod (g:Gph):Prop where
 nm:g.nm.size<=1000000
 ns:∀n∈g.ns,n.nm.size<=1000000/\n.lb.size<=1000000/\∀p∈n.ps,p.nm.size<=1000000
 es:∀e∈g.es,e.lb.size<=1000000
 cs:∀c∈g.cs,c.nm.size<=1000000
def ZgF (g:Gph)(i:Nat):Int:=match g.ns[i]? with
 |none=>0
 |some n=>if ZdY n.nm=false then 5 else if Zha g n.nm<i then 6 else if Zfh n.lb≠0 then Zfh n.lb
  else if Zd5 n.w=false\/Zd5 n.h=false\/n.cl< -1\/(g.cs.length:Int)<=n.cl then 3 else Zkm n.ps
def ZfB (cs:List Cl):Nat->Int->List Int
 |0,_=>[]
 |f+1,c=>if c<0 then[]else c::ZfB cs f (match cs[c.toNat]? with|some x=>x.pa|none=>-1)
def Zdj (cs:List Cl)(c:Int):List Int:=ZfB cs (c+1).toNat c
def ZfL (g:Gph)(i:Nat):Int:=match g.cs[i]? with
 |none=>0
 |some c=>if ZdY c.nm=false then 5 else if 0<=Zha g c.nm\/(g.cs.take i).any (λ x=>decide (x.nm=c.nm))=true then 6 else if c.pa< -1\/(i:Int)<=c.pa then 3 else if 6<(Zdj g.cs i).length then 2 else 0
def Zkk (g:Gph)(v:Int):Nat:=match g.ns[v.toNat]? with|some n=>n.ps.length|none=>0
def ZiF (g:Gph)(e:Ed):Int:=
 if e.fr<0\/e.to<0\/(g.ns.length:Int)<=e.fr\/(g.ns.length:Int)<=e.to\/e.fp< -1\/e.tp< -1\/(Zkk g e.fr:Int)<=e.fp\/(Zkk g e.to:Int)<=e.tp then 3
 else if Zfh e.lb≠0 then Zfh e.lb else if e.wt<1\/1000<e.wt\/e.ln<1\/64<e.ln then 7 else 0
def Zhb (g:Gph)(i:Nat):Int:=match g.es[i]? with|none=>0|some e=>ZiF g e
def Zdw (g:Gph):Int:=if 64<g.ns.length\/256<g.es.length\/16<g.cs.length then 2 else if ZdY g.nm=false then 5
 else if fe (ZgF g) g.ns.length≠0 then fe (ZgF g) g.ns.length else if fe (ZfL g) g.cs.length≠0 then fe (ZfL g) g.cs.length else fe (Zhb g) g.es.length
theorem ZoY {g:Gph}{i:Nat}{n:Nd}(h:g.ns[i]? =some n):ZgF g i=if ZdY n.nm=false then 5 else if Zha g n.nm<i then 6 else if Zfh n.lb≠0 then Zfh n.lb
  else if Zd5 n.w=false\/Zd5 n.h=false\/n.cl< -1\/(g.cs.length:Int)<=n.cl then 3 else Zkm n.ps:=by rw[ZgF,h]
theorem Zsc {g:Gph}{i:Nat}{c:Cl}(h:g.cs[i]? =some c):ZfL g i=if ZdY c.nm=false then 5 else if 0<=Zha g c.nm\/(g.cs.take i).any (λ x=>decide (x.nm=c.nm))=true then 6 else if c.pa< -1\/(i:Int)<=c.pa then 3 else if 6<(Zdj g.cs i).length then 2 else 0:=by rw[ZfL,h]
theorem ZvG (g:Gph)(i:Nat)(hm:Mod g)(hi:i<g.ns.length):Zaa Tryz.prog 91 [ZbU g, .int i] (.int (ZgF g i)):=by
 obtain⟨n,hn⟩:=Zad hi;obtain⟨m1,m2,m3⟩:=hm.ns n (uA hn);have e:=ZoY hn;have h1:=Zls n.nm m1;have h2:=ZlD g n.nm;have h3:=ZrL n.lb;have h4:=Zjv n.w;have h5:=Zjv n.h;have h6:=Zv8 n.ps m3;rw[e];rcases c1:ZdY n.nm with _|_<;>rw[c1]at h1
 ·rw[if_pos rfl];refine kE Tryz.func91 ?_;intro hat B X w0;refine kw1 kO (kc1 hn) (kc1 h1) ?_;exact Zah rfl
 ·rw[if_neg (by decide)];by_cases c2:Zha g n.nm<i
  ·rw[if_pos c2];refine kE Tryz.func91 ?_;intro hat B X w0;refine kw1 kO (kc2 hn c2) (kc2 h1 h2) ?_;exact Zah rfl
  ·rw[if_neg c2];by_cases c3:Zfh n.lb=0
   ·rw[if_neg (by omega)];rw[c3]at h3;rcases c4:Zd5 n.w with _|_<;>rw[c4]at h4
    ·rw[if_pos (.inl rfl)];refine kE Tryz.func91 ?_;intro hat B X w0;refine kw1 kO (kc2 hn c2) (kc4 h1 h2 h3 h4) ?_;exact Zah rfl
    ·rcases c5:Zd5 n.h with _|_<;>rw[c5]at h5
     ·rw[if_pos (.inr (.inl rfl))];refine kE Tryz.func91 ?_;intro hat B X w0;refine kw1 kO (kc2 hn c2) (kc5 h1 h2 h3 h4 h5) ?_;exact Zah rfl
     ·by_cases c6:n.cl< -1
      ·rw[if_pos (.inr (.inr (.inl c6)))];refine kE Tryz.func91 ?_;intro hat B X w0;refine kw1 kO (kc3 hn c2 c6) (kc5 h1 h2 h3 h4 h5) ?_;exact Zah rfl
      ·by_cases c7:(g.cs.length:Int)<=n.cl
       ·rw[if_pos (.inr (.inr (.inr c7)))];refine kE Tryz.func91 ?_;intro hat B X w0;refine kw1 kO (kc4 hn c2 c6 c7) (kc5 h1 h2 h3 h4 h5) ?_;exact Zah rfl
       ·rw[if_neg (by simp;omega)];refine kE Tryz.func91 ?_;intro hat B X w0;refine kw1 kO (kc4 hn c2 c6 c7) (kc6 h1 h2 h3 h4 h5 h6) ?_;exact Zah rfl
   ·rw[if_pos (by omega)];refine kE Tryz.func91 ?_;intro hat B X w0;refine kw1 kO (kc3 hn c2 c3) (kc3 h1 h2 h3) ?_;exact Zah rfl
def ZiX (cs:List Cl)(c0:Int):Prop:=∀(j:Nat) x,cs[j]? =some x->(j:Int)<=c0->-1<=x.pa/\x.pa<j
theorem Zwi {cs:List Cl}{c0:Int}(h:ZiX cs c0):∀(f:Nat) (c:Int),c<=c0->(c+1).toNat<=f->ZfB cs f c=Zdj cs c:=by
 intro f
 induction f using Nat.strongRecOn with
 |_ f ih=>
  intro c hc hf;by_cases h0:c<0
  ·rw[Zdj,show(c+1).toNat=0 by omega,ZfB];cases f with
   |zero=>rfl
   |succ f=>rw[ZfB,if_pos h0]
  ·obtain⟨k,rfl⟩:∃k:Nat,c=k:=⟨c.toNat,by omega⟩;cases f with
   |zero=>omega
   |succ f=>
    rw[Zdj,show((k:Int)+1).toNat=k+1 by omega,ZfB,ZfB,if_neg (by omega),if_neg (by omega),uL]
    congr 1
    cases hx:cs[k]? with
    |none=>
     dsimp only;rw[ih f (by omega) (-1) (by omega) (by omega)];rcases uF k (f+1)with h1|h1
     ·rcases uF k f with h2|h2
      ·rw[ih k (by omega) (-1) (by omega) (by omega)]
      ·rw[ih k (by omega) (-1) (by omega) (by omega)]
     ·omega
    |some x=>
     dsimp only;obtain⟨g1,g2⟩:=h k x hx hc;rw[ih f (by omega) x.pa (by omega) (by omega),ih k (by omega) x.pa (by omega) (by omega)]
theorem ZyP (cs:List Cl){c:Int}(h:c<0):Zdj cs c=[]:=by
 rw[Zdj,show(c+1).toNat=0 by omega,ZfB]
theorem Zvj {cs:List Cl}{c0:Int}(h:ZiX cs c0){k:Nat}{x:Cl}(hx:cs[k]? =some x)(hk:(k:Int)<=c0):Zdj cs k=(k:Int)::Zdj cs x.pa:=by
 obtain⟨g1,g2⟩:=h k x hx hk;rw[Zdj,show((k:Int)+1).toNat=k+1 by omega,ZfB,if_neg (by omega),uL,hx];dsimp only;rw[Zwi h k x.pa (by omega) (by omega)]
theorem Zvr (g:Gph)(i:Nat)(hi:i<g.cs.length)(hd:ZiX g.cs i)(h1:i<=1000):Zaa Tryz.prog 206 [ZbU g, .int i] (.sl ((Zdj g.cs i).map D.int)):=by
 refine kE Tryz.func206 ?_;intro hat B X w0;refine kw1 kO kc0 kc0 ?_;refine Zas _ (ZdV 5 901 1 rfl rfl) ?_;refine Zaf (λ(q:List Int×Int)=>match q with|(l,c)=>l++Zdj g.cs c=Zdj g.cs i/\-1<=c/\c<=i/\(l.length:Int)+c<=i) (λ(l,c)=>[(1, .int c),(2, .ptr 2 0 0 0),(5, .ref 901 1 0 l.length l.length)]) (λ(l,c)=>[(2, .cells [.d (Zbg g.nm), .d (.bool g.dir), .d (.sl (g.ns.map ndD)), .d (.sl (g.es.map edD)), .d (.sl (g.cs.map clD))]),(901, .row 1 (l.map D.int))]) (λ(l,c)=>(c+1).toNat) ([],(i:Int)) ?_ ?_ ?_
 ·exact⟨rfl,by omega,by omega,by simp⟩
 ·exact kN kc0 []
 ·rintro⟨l,c⟩ ⟨q1,q2,q3,q4⟩;dsimp only at q1 q2 q3 q4|-;by_cases h0:c<0
  ·refine kw1 kO (kc1 h0) kc0 ?_;rw[ZyP _ h0,yQ]at q1;exact ZcK (o:=901) rfl rfl (by simp) (by rw[uG (by simp),q1])
  ·obtain⟨k,rfl⟩:∃k:Nat,c=k:=⟨c.toNat,by omega⟩;obtain⟨x,hx⟩:=Zad (l:=g.cs) (k:=k) (by omega);obtain⟨g1,g2⟩:=hd k x hx q3;have hs:=Zvj hd hx q3;refine kw1 kO (kc2 hx @Zat) kc0 ?_;refine⟨(l++[(k:Int)],x.pa),?_,kN (kc5 @uC.{0} @yT.{0} @uU.{0,0} @uV.{0,0} @yS.{0,0}) [(901,11)],?_⟩
   ·refine⟨?_,by omega,by omega,?_⟩
    ·rw[<-q1,hs,yO];rfl
    ·rw[uC,yT];omega
   ·dsimp only;omega
theorem ZvC (g:Gph)(i:Nat)(hi:i<g.cs.length)(hd:ZiX g.cs i)(h1:i<=1000):Zaa Tryz.prog 155 [ZbU g, .int i] (.int (Zdj g.cs i).length):=by
 have h:=Zvr g i hi hd h1;refine kE Tryz.func155 ?_;intro hat B X w0;refine kw kO kc0 (kc1 h) ?_
 repeat' first|exact True.intro|refine Bn.mk ?_ ?_|intro hc
 exact Zah rfl
theorem ZvT {g:Gph}{i:Nat}(h:fe (ZfL g) i=0){c:Cl}(hc:g.cs[i]? =some c)(h1:¬c.pa< -1)(h2:¬(i:Int)<=c.pa):ZiX g.cs i:=by
 intro j x hx hj;rcases uF j i with hlt|hge
 ·have hz:=ZnA h j hlt;rw[Zsc hx]at hz;split at hz
  ·cases hz
  ·split at hz
   ·cases hz
   ·split at hz
    ·cases hz
    ·rename_i hq;omega
 ·obtain rfl:j=i:=by omega
  rw[hc]at hx;cases hx;omega
theorem Zzt (g:Gph)(i:Nat)(hm:Mod g)(hi:i<g.cs.length)(hz:fe (ZfL g) i=0)(h16:g.cs.length<=16):Zaa Tryz.prog 92 [ZbU g, .int i] (.int (ZfL g i)):=by
 obtain⟨c,hc⟩:=Zad hi;have e:=Zsc hc;have h1:=Zls c.nm (hm.cs c (uA hc));have h2:=ZlD g c.nm;have h3:=ZvI (g.cs.take i) 154 [.pt [Zbg c.nm, .int c.pa]] (λ x=>decide (x.nm=c.nm)) (λ x=>ZxU x c.nm c.pa);have ht:(g.cs.take i).map clD=(g.cs.map clD).take i:=Ai;rw[ht]at h3;rw[e];rcases c1:ZdY c.nm with _|_<;>rw[c1]at h1
 ·rw[if_pos rfl];refine kE Tryz.func92 ?_;intro hat B X w0;refine kw1 kO (kc1 hc) (kc1 h1) ?_;exact Zah rfl
 ·rw[if_neg (by decide)];by_cases c2:0<=Zha g c.nm
  ·rw[if_pos (.inl c2)];refine kE Tryz.func92 ?_;intro hat B X w0;refine kw1 kO (kc2 hc c2) (kc2 h1 h2) ?_;exact Zah rfl
  ·rcases c3:(g.cs.take i).any (λ x=>decide (x.nm=c.nm))with _|_<;>rw[c3]at h3
   ·rw[if_neg (by simp;omega)];by_cases c4:c.pa< -1
    ·rw[if_pos (.inl c4)];refine kE Tryz.func92 ?_;intro hat B X w0;refine kw1 kO (kc3 hc c2 c4) (kc3 h1 h2 h3) ?_;exact Zah rfl
    ·by_cases c5:(i:Int)<=c.pa
     ·rw[if_pos (.inr c5)];refine kE Tryz.func92 ?_;intro hat B X w0;refine kw1 kO (kc4 hc c2 c4 c5) (kc3 h1 h2 h3) ?_;exact Zah rfl
     ·rw[if_neg (by omega)];have h4:=ZvC g i hi (ZvT hz hc c4 c5) (by omega);by_cases c6:6<(Zdj g.cs i).length
      ·rw[if_pos c6];refine kE Tryz.func92 ?_;intro hat B X w0;refine kw1 kO (kc5 hc c2 c4 c5 c6) (kc4 h1 h2 h3 h4) ?_;exact Zah rfl
      ·rw[if_neg c6];refine kE Tryz.func92 ?_;intro hat B X w0;refine kw1 kO (kc5 hc c2 c4 c5 c6) (kc4 h1 h2 h3 h4) ?_;exact Zah rfl
   ·rw[if_pos (.inr rfl)];refine kE Tryz.func92 ?_;intro hat B X w0;refine kw1 kO (kc2 hc c2) (kc3 h1 h2 h3) ?_;exact Zah rfl
theorem ZpM {g:Gph}{v:Int}{n:Nd}(h:g.ns[v.toNat]? =some n):Zkk g v=n.ps.length:=by rw[Zkk,h]
theorem ZfR {a b:Int}(c:Prop)[Decidable c]:(if c then a else b)<b->True:=λ _=>trivial
theorem Zur (g:Gph)(e:Ed):Zaa Tryz.prog 93 [ZbU g,edD e] (.int (ZiF g e)):=by
 have h1:=ZrL e.lb;by_cases hin:0<=e.fr/\0<=e.to/\e.fr<g.ns.length/\e.to<g.ns.length
 ·obtain⟨i1,i2,i3,i4⟩:=hin;obtain⟨n1,g1⟩:=Zad (l:=g.ns) (k:=e.fr.toNat) (by omega);obtain⟨n2,g2⟩:=Zad (l:=g.ns) (k:=e.to.toNat) (by omega);have p1:=ZpM g1;have p2:=ZpM g2;have q1:¬(if e.to<e.fr then e.to else e.fr)<0:=by split<;>omega
  have q2:¬(g.ns.length:Int)<=(if e.fr<e.to then e.to else e.fr):=by split<;>omega
  rw[ZiF,p1,p2];by_cases hp:e.fp< -1\/e.tp< -1\/(n1.ps.length:Int)<=e.fp\/(n2.ps.length:Int)<=e.tp
  ·rw[if_pos (by omega)];by_cases k1:(if e.tp<e.fp then e.tp else e.fp)< -1
   ·refine kE Tryz.func93 ?_;intro hat B X w0;refine kw1 kO (kc5 g1 g2 q1 q2 k1) kc0 ?_;exact Zah rfl
   ·have k2:(n1.ps.length:Int)<=e.fp\/(n2.ps.length:Int)<=e.tp:=by split at k1<;>omega
    by_cases k3:(n1.ps.length:Int)<=e.fp
    ·refine kE Tryz.func93 ?_;intro hat B X w0;refine kw1 kO (kc6 g1 g2 q1 q2 k1 k3) kc0 ?_;exact Zah rfl
    ·have k4:(n2.ps.length:Int)<=e.tp:=by omega
     refine kE Tryz.func93 ?_;intro hat B X w0;refine kw1 kO (kc7 g1 g2 q1 q2 k1 k3 k4) kc0 ?_;exact Zah rfl
  ·rw[if_neg (by omega)];have k1:¬(if e.tp<e.fp then e.tp else e.fp)< -1:=by split<;>omega
   have k3:¬(n1.ps.length:Int)<=e.fp:=by omega
   have k4:¬(n2.ps.length:Int)<=e.tp:=by omega
   by_cases c3:Zfh e.lb=0
   ·rw[if_neg (by omega)];rw[c3]at h1;by_cases hw:e.wt<1\/1000<e.wt\/e.ln<1\/64<e.ln
    ·rw[if_pos hw];refine kE Tryz.func93 ?_;intro hat B X w0;refine kw kO (kc7 g1 g2 q1 q2 k1 k3 k4) (kc1 h1) ?_
     repeat' first|exact True.intro|refine Bn.mk ?_ ?_|intro hc
     all_goals first|exact Zah rfl|(exfalso;omega)
    ·rw[if_neg hw];have w1:¬e.wt<1:=by omega
     have w2:¬1000<e.wt:=by omega
     have w3:¬e.ln<1:=by omega
     have w4:¬64<e.ln:=by omega
     refine kE Tryz.func93 ?_;intro hat B X w0
     repeat' first|refine Zbt rfl ?_|refine ZaX ?_|refine wR ?_|(refine rc (h1) rfl ?_ ?_;(· first|rfl|simp(disch:=omega) only[go_sem,simprocAttr,g1,g2,q1,q2,k1,k3,k4,w1,w2,w3,w4]))|(refine Zbv rfl rfl (λ hc=>?_) (λ hc=>?_)<;>try simp only[hcL]at hc)|(refine Zbx _ rfl rfl (λ hc=>?_) (λ hc=>?_)<;>(try simp only[hcL]at hc)<;>try omega)|simp(disch:=omega) only[go_sem,simprocAttr,g1,g2,q1,q2,k1,k3,k4,w1,w2,w3,w4]|apply And.intro|omega|decide+kernel
     exact Zah rfl
   ·rw[if_pos (by omega)];refine kE Tryz.func93 ?_;intro hat B X w0;refine kw1 kO (kc8 g1 g2 q1 q2 k1 k3 k4 c3) (kc1 h1) ?_;exact Zah rfl
 ·rw[ZiF,if_pos (by omega)];by_cases q1:(if e.to<e.fr then e.to else e.fr)<0
  ·refine kE Tryz.func93 ?_;intro hat B X w0;refine kw1 kO (kc1 q1) kc0 ?_;exact Zah rfl
  ·have q2:(g.ns.length:Int)<=(if e.fr<e.to then e.to else e.fr):=by split at q1<;>split<;>omega
   refine kE Tryz.func93 ?_;intro hat B X w0;refine kw1 kO (kc2 q1 q2) kc0 ?_;exact Zah rfl
theorem ZjU (g:Gph)(hm:Mod g):Zaa Tryz.prog 45 [ZbU g] (.int (Zdw g)):=by
 have h1:=Zls g.nm hm.nm;rw[Zdw];by_cases c0:64<g.ns.length\/256<g.es.length\/16<g.cs.length
 ·rw[if_pos c0];refine kE Tryz.func45 ?_;intro hat B X w0;refine kw kO kc0 kc0 ?_
  repeat' first|exact True.intro|refine Bn.mk ?_ ?_|intro hc
  all_goals first|exact Zah rfl|(exfalso;omega)
 ·rw[if_neg c0];have a1:¬(64:Int)<g.ns.length:=by omega
  have a2:¬(256:Int)<g.es.length:=by omega
  have a3:¬(16:Int)<g.cs.length:=by omega
  rcases c1:ZdY g.nm with _|_<;>rw[c1]at h1
  ·rw[if_pos rfl];refine kE Tryz.func45 ?_;intro hat B X w0;refine kw1 kO (kc3 a1 a2 a3) (kc1 h1) ?_;exact Zah rfl
  ·rw[if_neg (by decide)];refine kE Tryz.func45 ?_;intro hat B X w0;refine kw1 kO (kc3 a1 a2 a3) (kc1 h1) ?_;refine Zaf (λ(k:Nat)=>k<=g.ns.length/\fe (ZgF g) k=0) (λ k=>[(1, .ptr 1 0 0 0),(32, .int g.ns.length),(33, .int k)]) (λ k=>[(1, .cells [.d (Zbg g.nm), .d (.bool g.dir), .d (.sl (g.ns.map ndD)), .d (.sl (g.es.map edD)), .d (.sl (g.cs.map clD))])]) (λ k=>g.ns.length-k) 0 ?_ ?_ ?_
   ·exact⟨uI _,rfl⟩
   ·exact kN kc0 []
   ·rintro k ⟨hk,hinv⟩;rcases uF k g.ns.length with hlt|hge
    ·have h2:=ZvG g k hm hlt;by_cases hz:ZgF g k=0
     ·rw[hz]at h2;refine kw1 kO kc0 (kc1 h2) ?_;refine⟨k+1,?_,kN kc0 [],?_⟩
      ·exact⟨hlt,Zkn hinv hz⟩
      ·omega
     ·refine kw1 kO (kc1 hz) (kc1 h2) ?_;exact Zah (by rw[Zhv hinv hz _ hlt,if_pos hz])
    ·obtain rfl:k=g.ns.length:=by omega
     rw[if_neg (λ h=>h hinv)];refine kw1 kO kc0 kc0 ?_;refine Zaf (λ(k:Nat)=>k<=g.cs.length/\fe (ZfL g) k=0) (λ k=>[(1, .ptr 1 0 0 0),(45, .int g.cs.length),(46, .int k)]) (λ k=>[(1, .cells [.d (Zbg g.nm), .d (.bool g.dir), .d (.sl (g.ns.map ndD)), .d (.sl (g.es.map edD)), .d (.sl (g.cs.map clD))])]) (λ k=>g.cs.length-k) 0 ?_ ?_ ?_
     ·exact⟨uI _,rfl⟩
     ·exact kN kc0 []
     ·rintro k ⟨hk,hinv2⟩;rcases uF k g.cs.length with hlt|hge
      ·have h2:=Zzt g k hm hlt hinv2 (by omega);by_cases hz:ZfL g k=0
       ·rw[hz]at h2;refine kw1 kO kc0 (kc1 h2) ?_;refine⟨k+1,?_,kN kc0 [],?_⟩
        ·exact⟨hlt,Zkn hinv2 hz⟩
        ·omega
       ·refine kw1 kO (kc1 hz) (kc1 h2) ?_;exact Zah (by rw[Zhv hinv2 hz _ hlt,if_pos hz])
      ·obtain rfl:k=g.cs.length:=by omega
       rw[if_neg (λ h=>h hinv2)];refine kw1 kO kc0 kc0 ?_;refine Zaf (λ(k:Nat)=>k<=g.es.length/\fe (Zhb g) k=0) (λ k=>[(1, .ptr 1 0 0 0),(57, .d (.sl (g.es.map edD))),(58, .int g.es.length),(59, .int k)]) (λ k=>[(1, .cells [.d (Zbg g.nm), .d (.bool g.dir), .d (.sl (g.ns.map ndD)), .d (.sl (g.es.map edD)), .d (.sl (g.cs.map clD))])]) (λ k=>g.es.length-k) 0 ?_ ?_ ?_
       ·exact⟨uI _,rfl⟩
       ·exact kN kc0 []
       ·rintro k ⟨hk,hinv3⟩;rcases uF k g.es.length with hlt|hge
        ·obtain⟨x,hx⟩:=Zad hlt;have h2:=Zur g x;have ee:Zhb g k=ZiF g x:=by rw[Zhb,hx]
         rw[<-ee]at h2;by_cases hz:Zhb g k=0
         ·rw[hz]at h2;refine kw1 kO (kc1 hx) (kc1 h2) ?_;refine⟨k+1,?_,kN kc0 [],?_⟩
          ·exact⟨hlt,Zkn hinv3 hz⟩
          ·omega
         ·refine kw1 kO (kc2 hx hz) (kc1 h2) ?_;exact Zah (by rw[Zhv hinv3 hz _ hlt])
        ·refine kw1 kO kc0 kc0 ?_;exact Zah (by rw[show g.es.length=k by omega,hinv3])
end Go.Proofs.YtjjbhjnpeenbkaaGreatDoor.Gr
namespace Go.Proofs.YtjjbhjnpeenbkaaGreatDoor
open Go Go.PS Go.Proofs
open Go.Bd (sm Zam ZbF)
set_option maxRecDepth 100000
attribute [local irreducible] Zac wpG Zaa Zag
abbrev Zax (v:Nat):D:= .int (v:Int)
abbrev Zcp (l:List Nat):D:= .sl (l.map Zax)
theorem Zxv (l:List Nat):Zcp l=Zab (l.map λ v:Nat=>(v:Int)):=by rw[Zcp,Zab,gL];rfl
theorem Ztj (l:List Nat):∀d,d∈l.map Zax->d.cells.length=1:=ZkJ Zax 1 (λ _=>rfl) l
theorem Zhh (v:Nat):∀d,d∈[Zax v]->d.cells.length=1:=λ d hd=>by rw[uR.1 hd];rfl
theorem ZAL {l:List Nat}{v:Nat}:(v:Int)∈l.map (λ v:Nat=>(v:Int))↔v∈l:=by
 simp[uN,Int.ofNat_inj]
theorem ZwX (l:List Int)(v:Int):decide (0<=placeF l v)=decide (v∈l):=by
 rw[Zs7,gO,gM];simp
theorem ZCt (l:List Int)(v:Int):Zaa Tryz.prog 224 [Zab l, .int v] (.bool (decide (v∈l))):=by
 have h:=Zkh l v;rw[<-ZwX];refine kE Tryz.func224 ?_;intro hat B X w0;refine kw1 kO kc0 (kc1 h) ?_;exact Zaj rfl
theorem Zic (l:List Nat)(v:Nat):Zaa Tryz.prog 224 [Zcp l, .int v] (.bool (decide (v∈l))):=by
 have h:=ZCt (l.map λ v:Nat=>(v:Int)) v;rw[<-Zxv,decide_eq_decide.2 ZAL]at h;exact h
def Zc6 (x:Int):Bool:=decide (x<0)||decide (1000000<x)
def Zhc (n:Nat)(p:List Int):Bool:=decide (p.length≠n)||p.any Zc6
def okM (m:List (List Int)):Bool:=decide (m.length<=8)&& !m.any (Zhc m.length)
theorem Znc {m:List (List Int)}(h:okM m=true):Sq m/\m.length<=8:=by
 simp only[okM,uK,uE,yD,yR]at h;obtain⟨h1,h2⟩:=h;have hr:∀p,p∈m->p.length=m.length/\∀x,x∈p->0<=x/\x<=1000000:=λ p hp=>by
  have:=h2 p hp;simp only[Zhc,gA,uE,not_or,Cq,yR]at this;refine⟨by omega,λ x hx=>?_⟩;have:=this.2 x hx;simp only[Zc6,gA,Bool.or_eq_false_iff,uE,qA,not_or]at this;omega
 exact⟨⟨by omega,λ p hp=>(hr p hp).1,λ p hp=>(hr p hp).2⟩,h1⟩
theorem Zw6 {m:List (List Int)}(h:Sq m)(h8:m.length<=8):okM m=true:=by
 simp only[okM,uK,uE,yD,yR];refine⟨h8,λ p hp=>?_⟩;simp only[Zhc,gA,uE,not_or,Cq,yR];refine⟨λ hne=>hne (h.row p hp),λ x hx=>?_⟩;have:=h.val p hp x hx;simp only[Zc6,gA,Bool.or_eq_false_iff,uE,qA,not_or];omega
theorem Sq.small {m:List (List Int)}(h:Sq m):ZbF (Zai m) m.length:=λ u v hu hv=>by
 obtain⟨p,_,_,_,g1,g2⟩:=h.get hu hv;exact⟨g1,g2⟩
theorem ZuO (x:Int):Zaa Tryz.prog 223 [.int x] (.bool (Zc6 x)):=by
 refine kE Tryz.func223 ?_;intro hat B X w0;refine kw kO kc0 kc0 ?_
 repeat' first|exact True.intro|refine Bn.mk ?_ ?_|intro hc
 all_goals
  refine Zaj ?_;simp only[Zc6, *,Ck,Ca,Bool.true_or,Bool.or_true,Bool.false_or,Bool.or_false]
theorem Zse (m:List (List Int)):Zaa Tryz.prog 178 [Zae m] (.bool (okM m)):=by
 refine kE Tryz.func178 ?_;intro hat B X w0;have hl:=ZaU 0 hat rfl;rw[uD]at hl;by_cases c8:8<m.length
 ·refine kw1 kO kc0 kc0 ?_;refine Zaj ?_;rw[okM,yE (by omega)];rfl
 ·refine kw1 kO kc0 kc0 ?_;refine Zaf (λ(k:Nat)=>k<=m.length/\∀(j:Nat) y,j<k->m[j]? =some y->Zhc m.length y=false) (λ k=>[(0, .d (Zae m)),(8, .d (Zae m)),(9, .int m.length),(10, .int k)]) (λ k=>[]) (λ k=>m.length-k) 0 ?_ ?_ ?_
  ·exact⟨uI _,λ j y hj=>by omega⟩
  ·exact kN kc0 []
  ·rintro k ⟨hk,hinv⟩;rcases uF k m.length with hlt|hge
   ·obtain⟨p,hp⟩:=Zad hlt;have hcf:=Zlo p 223 Zc6 ZuO;by_cases c:p.length=m.length
    ·have cI:(p.length:Int)=m.length:=by omega
     rcases hb:p.any Zc6 with _|_<;>rw[hb]at hcf
     ·refine kw1 kO (kc2 hp cI) (kc1 hcf) ?_;refine⟨k+1,?_,kN kc0 [],?_⟩
      ·exact⟨by omega,Zbe hinv hp (by rw[Zhc,hb,yE (by omega)];rfl)⟩
      ·omega
     ·refine kw1 kO (kc2 hp cI) (kc1 hcf) ?_;refine Zaj ?_;rw[okM,Zb8 hp (by rw[Zhc,hb,Bool.or_true])];simp
    ·have cI:¬(p.length:Int)=m.length:=by omega
     refine kw1 kO (kc2 hp cI) (kc1 hcf) ?_;refine Zaj ?_;rw[okM,Zb8 hp (by rw[Zhc,yN c,Bool.true_or])];simp
   ·refine kw1 kO kc0 kc0 ?_;refine Zaj ?_;rw[okM,Zcq λ j y hj=>hinv j y (by omega),yN (by omega)];rfl
end Go.Proofs.YtjjbhjnpeenbkaaGreatDoor
namespace Go.Proofs.YtjjbhjnpeenbkaaGreatDoor
open Go Go.PS Go.Proofs
open Go.Bd (sm Zam ZbF low Part Zbn Za9)
set_option maxRecDepth 100000
attribute [local irreducible] Zac wpG Zaa Zag
def lwF (m:List (List Int))(k:Nat):Int:=sm (λ u=>sm (λ v=>min (Zai m u v) (Zai m v u)) u) k
theorem Zru (m:List (List Int)):low (Zai m) m.length []=lwF m m.length:=by
 rw[low,lwF];refine Go.Bd.sm_congr _ λ u _=>Go.Bd.sm_congr _ λ v _=>?_
 rw[if_pos ⟨jQ,jQ⟩,Int.min_comm]
theorem ZjE (a b:Int):(if b<a then b else a)=min a b:=by omega
theorem ZoG {m:List (List Int)}(hs:Sq m)(h8:m.length<=8){u:Nat}(hu:u<m.length)(k:Nat)(hk:k<=u):0<=sm (λ v=>min (Zai m u v) (Zai m v u)) k/\sm (λ v=>min (Zai m u v) (Zai m v u)) k<=1000000*k:=
 Go.Bd.sm_bounds k λ v hv=>by
  have h1:=hs.small u v hu (by omega);have h2:=hs.small v u (by omega) hu;omega
theorem Zo4 {m:List (List Int)}(hs:Sq m)(h8:m.length<=8)(k:Nat)(hk:k<=m.length):0<=lwF m k/\lwF m k<=8000000*k:=
 Go.Bd.sm_bounds k λ u hu=>by
  have:=ZoG hs h8 (u:=u) (by omega) u (uH _);omega
theorem ZyT (m:List (List Int))(h:okM m=true):Zaa Tryz.prog 180 [Zae m] (.int (low (Zai m) m.length [])):=by
 have hv:=Zse m;rw[h]at hv;obtain⟨hs,h8⟩:=Znc h;rw[Zru];refine kE Tryz.func180 ?_;intro hat B X w0;refine kw1 kO kc0 (kc1 hv) ?_;refine Zaf (λ(u:Nat)=>u<=m.length) (λ u=>[(0, .d (Zae m)),(3, .int (lwF m u)),(10, .int m.length),(11, .int u)]) (λ u=>[]) (λ u=>m.length-u) 0 ?_ ?_ ?_
 ·exact uI _
 ·exact eL [] _ _ (by refine⟨?_,?_⟩<;>(repeat' first|exact fmn|refine fmc ⟨(by first|rfl|(simp(disch:=omega) only[go_sem,simprocAttr,inL,lwF,sm];first|done|omega|(congr 1;done))),?_⟩);done)
 ·intro u hu;have hb:=Zo4 hs h8 u hu;rcases uF u m.length with hlt|hge
  ·have e1:lwF m (u+1)=lwF m u+sm (λ v=>min (Zai m u v) (Zai m v u)) u:=rfl;refine kw1 kO kc0 kc0 ?_;refine Zaf (λ(v:Nat)=>v<=u) (λ v=>[(0, .d (Zae m)),(3, .int (lwF m u+sm (λ v=>min (Zai m u v) (Zai m v u)) v)),(4, .int u),(10, .int m.length),(11, .int u),(14, .int u),(15, .int v)]) (λ v=>[]) (λ v=>u-v) 0 ?_ ?_ ?_
   ·exact uI _
   ·exact eL [] _ _ (by refine⟨?_,?_⟩<;>(repeat' first|exact fmn|refine fmc ⟨(by first|rfl|(simp(disch:=omega) only[go_sem,simprocAttr,inL,sm,jT];first|done|omega|(congr 1;done))),?_⟩);done)
   ·intro v hv;have hb2:=ZoG hs h8 hlt v hv;rcases uF v u with hlv|hgv
    ·obtain⟨p,hp,hpl,hpv,h1,h2⟩:=hs.get hlt (show v<m.length by omega);obtain⟨q,hq,hql,hqv,h3,h4⟩:=hs.get (show v<m.length by omega) hlt;have e2:sm (λ v=>min (Zai m u v) (Zai m v u)) (v+1)=sm (λ v=>min (Zai m u v) (Zai m v u)) v+min (Zai m u v) (Zai m v u):=rfl;refine kw1 kO (kc5 hp hq hpv hqv @ZjE) kc0 ?_;refine⟨v+1,?_,kN (kc2 e2 @zI) [],?_⟩
     ·omega
     ·omega
    ·have:v=u:=by omega
     subst this;refine kw1 kO kc0 kc0 ?_;refine⟨v+1,?_,kN (kc1 e1) [],?_⟩
     ·omega
     ·omega
  ·have:u=m.length:=by omega
   subst this;refine kw1 kO kc0 kc0 ?_;exact Zah rfl
theorem ZjT (n:Nat):Part n n []:=⟨Ap,λ v hv=>absurd hv jQ,by simp⟩
def ZcJ (m:List (List Int)):List Nat×Int:=(Zbn (Zai m) m.length m.length []).getD ([],0)
theorem Znt (m:List (List Int)):Zbn (Zai m) m.length m.length []=some (ZcJ m):=by
 obtain⟨s,hs⟩:=Go.Bd.best_some (c:=Zai m) m.length [] (ZjT _);rw[ZcJ,hs];rfl
end Go.Proofs.YtjjbhjnpeenbkaaGreatDoor
namespace Go.Proofs.YtjjbhjnpeenbkaaGreatDoor
open Go Go.PS Go.Proofs
open Go.Bd (sm Zam ZbF low Part Zbn Za9 ZbX Zby ZcS Zdt ZcV)
set_option maxRecDepth 100000
attribute [local irreducible] Zac wpG Zaa Zag
theorem ZyK (l:List Nat)(hn:l.length<=1000000):Zag Tryz.prog 214 [.ref 1000 1 0 l.length l.length] [(1000, .row 1 (l.map Zax)),(2000, .dead)] (.ref 2000 1 0 l.length l.length) [(1000, .row 1 (l.map Zax)),(2000, .row 1 (l.map Zax))]:=by
 rcases gT (l=[])with rfl|hl
 ·refine kM Tryz.func214 ?_;intro B X w0;refine Zdb ?_;refine kw1 kO kc0 kc0 ?_;refine Zjd 4 rfl ?_;intro b;cases b
  ·repeat' first|refine Zbt rfl ?_|refine ZaX ?_|refine ZfZ (Nat.beq 5) Zcf ?_|(refine Zbv rfl rfl (λ hc=>?_) (λ hc=>?_)<;>try simp only[hcL]at hc)|(refine Zbx _ rfl rfl (λ hc=>?_) (λ hc=>?_)<;>(try simp only[hcL]at hc)<;>try omega)|simp(disch:=omega) only[go_sem,simprocAttr,roomy]|apply And.intro|omega|decide+kernel
   refine⟨_,Zbm.1 (kN (L:=[(2, .ref 2000 1 0 0 0)]) (M:=[(1000, .row 1 []),(2000, .row 1 [])]) kc0 [(2000,7)]),?_⟩;exact⟨rfl,uM.2 ⟨rfl,uM.2 ⟨rfl,yB _⟩⟩⟩
  ·refine kw1 kO kc0 kc0 ?_;refine⟨_,Ent.trans (ZdV 2 7 1 rfl rfl) (Zbm.1 (eL [(2000,7)] [(2, .ref 2000 1 0 0 0)] [(1000, .row 1 []),(2000, .row 1 [])] (by constructor<;>(repeat' first|exact yB _|refine uM.2 ⟨rfl,?_⟩)))),?_⟩;exact⟨rfl,uM.2 ⟨rfl,uM.2 ⟨rfl,yB _⟩⟩⟩
 ·have he:(l.map Zax).isEmpty=false:=by simpa using hl
  have hpos:0<l.length:=zZ.2 hl;have hne:l.length≠0:=by omega
  refine kM Tryz.func214 ?_;intro B X w0;refine Zdb ?_
  repeat' first|refine Zbt rfl ?_|refine ZaX ?_|refine ZfZ (Nat.beq 5) Zcf ?_|(refine Zbv rfl rfl (λ hc=>?_) (λ hc=>?_)<;>try simp only[hcL]at hc)|(refine Zbx _ rfl rfl (λ hc=>?_) (λ hc=>?_)<;>(try simp only[hcL]at hc)<;>try omega)|simp(disch:=omega) only[go_sem,simprocAttr,he,roomy,Zat,hne]|exact Ztj l|apply And.intro|omega|decide+kernel
  refine⟨_,Zbm.1 (kN (L:=[(2, .ref 2000 1 0 l.length l.length)]) (M:=[(1000, .row 1 (l.map Zax)),(2000, .row 1 (l.map Zax))]) kc0 [(2000,7)]),?_⟩;exact⟨rfl,uM.2 ⟨rfl,uM.2 ⟨rfl,yB _⟩⟩⟩
def bPV :Option (List Nat×Int)->PV
 |none=> .nilS
 |some s=> .d (Zcp s.1)
def lI :Option (List Nat×Int)->Int
 |none=>0
 |some s=>s.2
theorem Zpw (c:Nat->Nat->Int)(n:Nat):∀(f:Nat) (l:List Nat),Part n f l->∀(st:Option (List Nat×Int)) (cost rest:Int),(∀s,st=some s->s.1.length=n)->∀s,ZbX c n f l cost rest st=some s->s.1.length=n
 |0,l,hp,st,cost,rest,h,s,hs=>by
  rw[ZbX]at hs;split at hs
  ·exact h s hs
  ·cases hs;have:=hp.len;dsimp only;omega
 |f+1,l,hp,st,cost,rest,h,s,hs=>by
  rw[Go.Bd.ext_foldE]at hs;split at hs
  ·exact h s hs
  ·have key:∀k,k<=n->∀s,Zby c n f l cost rest st k=some s->s.1.length=n:=by
    intro k
    induction k with
    |zero=>intro _ s hs;exact h s hs
    |succ k ih=>
     intro hk s hs;by_cases hm:k∈l
     ·rw[Go.Bd.foldE_in c n hm]at hs;exact ih (by omega) s hs
     ·rw[Go.Bd.foldE_out c n hm]at hs;exact Zpw c n f (l++[k]) (hp.snoc (by omega) hm) _ _ _ (ih (by omega)) s hs
   exact key n (uH _) s hs
theorem Zvk {c:Nat->Nat->Int}{n f:Nat}{l:List Nat}(hp:Part n (f+1) l){st:Option (List Nat×Int)}{cost rest:Int}(h:∀s,st=some s->s.1.length=n):∀k,k<=n->∀s,Zby c n f l cost rest st k=some s->s.1.length=n:=by
 intro k
 induction k with
 |zero=>intro _ s hs;exact h s hs
 |succ k ih=>
  intro hk s hs;by_cases hm:k∈l
  ·rw[Go.Bd.foldE_in c n hm]at hs;exact ih (by omega) s hs
  ·rw[Go.Bd.foldE_out c n hm]at hs;exact Zpw c n f (l++[k]) (hp.snoc (by omega) hm) _ _ _ (ih (by omega)) s hs
def Zfx (m:List (List Int))(f:Nat)(l:List Nat)(st:Option (List Nat×Int))(cost rest:Int):Prop:=
 Zag Tryz.prog 179 [.ptr 1000 0 0 0, .int cost, .int rest] [(1000, .cells [.d (Zae m), .ref 1001 1 0 l.length l.length,bPV st, .int (lI st)]),(1001, .row 1 (l.map Zax)),(2000, .dead)] (.tup [])
  [(1000, .cells [.d (Zae m), .ref 2000 1 0 l.length l.length,bPV (ZbX (Zai m) m.length f l cost rest st), .int (lI (ZbX (Zai m) m.length f l cost rest st))]),(1001, .gone),(2000, .row 1 (l.map Zax))]
structure ExtIn (m:List (List Int))(l:List Nat)(st:Option (List Nat×Int))(cost rest:Int):Prop where
 len:∀s,st=some s->s.1.length=m.length
 pos:0<m.length\/st=none
 c0:0<=cost
 c1:cost<=8000000*l.length
 r0:-8000000*l.length<=rest
 r1:rest<=64000000
theorem ZoE (m:List (List Int))(f:Nat)(l:List Nat)(st:Option (List Nat×Int))(cost rest:Int)(hi:ExtIn m l st cost rest)(hl:l.length<=8)(hsh:ZcV st (cost+rest)=true)(he:ZbX (Zai m) m.length f l cost rest st=st):Zfx m f l st cost rest:=by
 rw[Zfx,he];rcases st with _|⟨b,k⟩
 ·cases hsh
 ·have hk:k<=cost+rest:=by simpa[ZcV]using hsh
  have hbl:=hi.len _ rfl;have hpos:0<m.length:=hi.pos.resolve_right (by simp);have hne:(b.map Zax).isEmpty=false:=by
   cases b with
   |nil=>simp at hbl;omega
   |cons x b=>rfl
  obtain⟨_,_,c0,c1,r0,r1⟩:=hi;simp only[bPV,lI];refine kM Tryz.func179 ?_;intro B X w0;refine Zdb ?_;refine kw1 kO (kc2 hne hk) kc0 ?_;refine⟨_,ZjP 1001 2000 rfl (by decide) (by decide),?_⟩;exact⟨⟨[],rfl,trivial⟩,uM.2 ⟨by simp[mvG,upd,Zan,Ob.ren,PV.ren],uM.2 ⟨rfl,uM.2 ⟨by simp[mvG,upd,Zan,Ob.ren,PV.ren],yB _⟩⟩⟩⟩
theorem ZuP (m:List (List Int))(hs:Sq m)(h8:m.length<=8)(l:List Nat)(hp:Part m.length 0 l)(st:Option (List Nat×Int))(cost rest:Int)(hi:ExtIn m l st cost rest)(hsh:ZcV st (cost+rest)=false):Zfx m 0 l st cost rest:=by
 have hll:=hp.len;have hlI:(l.length:Int)=m.length:=by omega
 have he:ZbX (Zai m) m.length 0 l cost rest st=some (l,cost):=by rw[ZbX,if_neg (by rw[hsh];decide)]
 rw[Zfx,he];have hcl:=ZyK l (by omega);rcases st with _|⟨b,k⟩
 ·obtain⟨_,_,c0,c1,r0,r1⟩:=hi;simp only[bPV,lI];refine kM Tryz.func179 ?_;intro B X w0;refine Zdb ?_;refine kw1 kO (kc1 hlI) (kc1 (kmc [(1000,1001),(2000,905)] hcl)) ?_;refine⟨_,Ent.trans (Zbm.1 (eL [] [] [(1000, .cells [.d (Zae m), .ref 1001 1 0 l.length l.length, .ref 905 1 0 l.length l.length, .int cost]),(1001, .row 1 (l.map Zax)),(905, .row 1 (l.map Zax))] (by constructor<;>(repeat' first|exact yB _|refine uM.2 ⟨rfl,?_⟩)))) (Ent.trans (Zde 905 1 (l.map Zax) rfl (ZcW _ rfl) (by decide)) (ZjP 1001 2000 rfl (by decide) (by decide))),?_⟩;exact⟨⟨[],rfl,trivial⟩,uM.2 ⟨by simp[mvG,upd,Zan,Ob.ren,PV.ren,ZfJ,Ob.frz,PV.frzL,PV.frz,Zat,hlI],uM.2 ⟨rfl,uM.2 ⟨by simp[mvG,upd,Zan,Ob.ren,PV.ren,ZfJ,Ob.frz],yB _⟩⟩⟩⟩
 ·have hk:¬k<=cost+rest:=by simpa[ZcV]using hsh
  have hbl:=hi.len _ rfl;have hpos:0<m.length:=hi.pos.resolve_right (by simp);have hne:(b.map Zax).isEmpty=false:=by
   cases b with
   |nil=>simp at hbl;omega
   |cons x b=>rfl
  obtain⟨_,_,c0,c1,r0,r1⟩:=hi;simp only[bPV,lI];refine kM Tryz.func179 ?_;intro B X w0;refine Zdb ?_;refine kw1 kO (kc3 hne hk hlI) (kc1 (kmc [(1000,1001),(2000,905)] hcl)) ?_;refine⟨_,Ent.trans (Zbm.1 (eL [] [] [(1000, .cells [.d (Zae m), .ref 1001 1 0 l.length l.length, .ref 905 1 0 l.length l.length, .int cost]),(1001, .row 1 (l.map Zax)),(905, .row 1 (l.map Zax))] (by constructor<;>(repeat' first|exact yB _|refine uM.2 ⟨rfl,?_⟩)))) (Ent.trans (Zde 905 1 (l.map Zax) rfl (ZcW _ rfl) (by decide)) (ZjP 1001 2000 rfl (by decide) (by decide))),?_⟩;exact⟨⟨[],rfl,trivial⟩,uM.2 ⟨by simp[mvG,upd,Zan,Ob.ren,PV.ren,ZfJ,Ob.frz,PV.frzL,PV.frz,Zat,hlI],uM.2 ⟨rfl,uM.2 ⟨by simp[mvG,upd,Zan,Ob.ren,PV.ren,ZfJ,Ob.frz],yB _⟩⟩⟩⟩
end Go.Proofs.YtjjbhjnpeenbkaaGreatDoor
