/- The sum of a matrix over any order of a layer (no program in sight). -/
import Derived.Test.YtjjbhjnpeenbkaaGreatDoorN
import Derived.Test.YtjjbhjnpeenbkaaGreatDoorPSMac
import Derived.Test.YtjjbhjnpeenbkaaGreatDoorD
import Derived.Test.YtjjbhjnpeenbkaaGreatDoorTypes
import Derived.Test.YtjjbhjnpeenbkaaGreatDoorPSFam
set_option linter.unusedSimpArgs false
set_option linter.unusedVariables false
set_option maxHeartbeats 16000000
namespace Go.Proofs.YtjjbhjnpeenbkaaGreatDoor
open Go Go.PS Go.Proofs
open Go.Bd (Zan ZfA ZfB Zmx)
theorem Zmw {c d:Nat->Nat->Int}:∀{l:List Nat},l.Nodup->(∀u,u∈l->∀v,v∈l->u≠v->c u v=d u v)->Zan c l=Zan d l
 |[],_,_=>rfl
 |u::l,hn,h=>by
  obtain⟨h1,h2⟩:=yS.1 hn;have e:l.map (c u)=l.map (d u):=yE λ v hv=>h u (by simp) v (uM _ hv) λ he=>h1 (he▸hv)
  rw[Zan,Zan,e,Zmw h2 λ u hu v hv=>h u (uM _ hu) v (uM _ hv)]
theorem Zq0 (f:Nat->Nat->Pr->Int)(l:List Nat):∀F:List Pr,Zan (λ u v=>w1 (f u v) F) l=w1 (λ y=>Zan (λ u v=>f u v y) l) F
 |[]=>by simp only[w1];exact ZfB l
 |y::F=>by simp only[w1];rw[ZfA,Zq0 f l F]
theorem ZqX (f:Nat->Nat->Pr->Pr->Int)(l:List Nat)(F:List Pr):∀E:List Pr,Zan (λ u v=>W (f u v) F E) l=W (λ x y=>Zan (λ u v=>f u v x y) l) F E
 |[]=>by simp only[W];exact ZfB l
 |x::E=>by simp only[W];rw[ZfA,Zq0,ZqX f l F E]
theorem ZqZ {own oth:Pr->Int}{P:List Pr}{o:List Nat}{c:Nat->Nat->Int}(hn:o.Nodup)(hin:∀e,e∈P->0<=own e/\(own e).toNat∈o)
  (hc:∀u,u∈o->∀v,v∈o->u≠v->c u v=W (λ x w=>ind (own x=(u:Int)/\own w=(v:Int)/\oth w<oth x)) P P):
  Zan c o=W (λ x w=>ind (o.idxOf (own x).toNat<o.idxOf (own w).toNat/\oth w<oth x)) P P:=by
 rw[Zmw hn hc,ZqX];refine ZhU λ x hx w hw=>?_
 obtain⟨x1,x2⟩:=hin x hx;obtain⟨y1,y2⟩:=hin w hw;have e:∀u v:Nat,ind (own x=(u:Int)/\own w=(v:Int)/\oth w<oth x)=if u=(own x).toNat/\v=(own w).toNat then ind (oth w<oth x)else 0:=λ u v=>by
  by_cases h:u=(own x).toNat/\v=(own w).toNat
  ·rw[if_pos h];exact Zhm ⟨λ h2=>h2.2.2,λ h2=>⟨by omega,by omega,h2⟩⟩
  ·rw[if_neg h];exact ZgJ λ h2=>h (by omega)
 have e2:(λ u v:Nat=>ind (own x=(u:Int)/\own w=(v:Int)/\oth w<oth x))=λ u v=>if u=(own x).toNat/\v=(own w).toNat then ind (oth w<oth x)else 0:=funext λ u=>funext λ v=>e u v
 rw[e2,Zmx _ _ _ o hn x2 y2];by_cases h:o.idxOf (own x).toNat<o.idxOf (own w).toNat
 ·rw[if_pos h];exact Zhm ⟨λ h2=>⟨h,h2⟩,λ h2=>h2.2⟩
 ·rw[if_neg h];exact(ZgJ λ h2=>h h2.1).symm
end Go.Proofs.YtjjbhjnpeenbkaaGreatDoor
namespace Go.Proofs.YtjjbhjnpeenbkaaGreatDoor
open Go Go.PS Go.Proofs
open Go.Bd (Zan Part Zfj)
def ZaG (y:List Int)(o:List Nat):List Int:=o.map λ k=>(y[k]?).getD 0
theorem Zl4 (y:List Int)(o:List Nat):(ZaG y o).length=o.length:=by simp[ZaG]
theorem ZpR {y:List Int}{o:List Nat}{p:Nat}{v:Int}(hp:p∈o)(h:y[p]? =some v):(ZaG y o)[o.idxOf p]? =some v:=by
 have hl:=List.idxOf_lt_length_iff.2 hp;have hg:o[o.idxOf p]? =some p:=by
  rw[uL hl,Ca]
 rw[ZaG,uI,hg,yV,h];rfl
theorem ZpS {y:List Int}{o:List Nat}(h:Part y.length 0 o){v:Int}:v∈ZaG y o↔v∈y:=by
 constructor
 ·intro hv;obtain⟨k,hk,rfl⟩:=uN.1 hv;have:=h.lt k hk;rw[uL this];exact jN this
 ·intro hv;obtain⟨p,hp⟩:=yW hv;have hlt:=(uB.1 hp).1;have:=ZpR (Zfj y.length h.nd h.lt (by have:=h.len;omega) p hlt) hp;exact uA this
theorem ZpT {y:List Int}{o:List Nat}(hy:y.Nodup)(h:Part y.length 0 o):(ZaG y o).Nodup:=by
 refine List.pairwise_map.2 (h.nd.imp_of_mem λ{a b} ha hb hne he=>hne ?_);have h1:=h.lt a ha;have h2:=h.lt b hb;rw[uL h1,uL h2]at he;exact(List.getElem_inj hy).1 he
theorem ZpU {y:List Int}{o:List Nat}(hy:y.Nodup)(h:Part y.length 0 o)(v:Int):placeF (ZaG y o) v=if 0<=placeF y v then((o.idxOf (placeF y v).toNat:Nat):Int)else -1:=by
 by_cases hv:v∈y
 ·obtain⟨p,hp⟩:=yW hv;have hlt:=(uB.1 hp).1;rw[Zhy (ZpT hy h) (ZpR (Zfj y.length h.nd h.lt (by have:=h.len;omega) p hlt) hp),Zhy hy hp,if_pos (by omega),uQ]
 ·rw[ZiH (λ h2=>hv ((ZpS h).1 h2)),ZiH hv,if_neg (by omega)]
theorem Zwe {y z:List Int}{o:List Nat}(hy:y.Nodup)(h:Part y.length 0 o)(ar:List Arc):Zbq (ZaG y o) z ar=(Zbq y z ar).map λ e=>(((o.idxOf e.1.toNat:Nat):Int),e.2):=by
 rw[Zbq,Zbq,List.map_flatMap]
 congr 1
 funext x
 rw[Zfq,Zfq,ZpU hy h];by_cases c:0<=placeF y x.1
 ·rw[if_pos c];by_cases c2:0<=placeF z x.2
  ·rw[if_pos ⟨by omega,c2⟩,if_pos ⟨c,c2⟩];rfl
  ·rw[if_neg (λ h=>c2 h.2),if_neg (λ h=>c2 h.2)];rfl
 ·rw[if_neg c,if_neg (λ h=>by omega),if_neg (λ h=>c h.1)];rfl
theorem Zwd {y z:List Int}{o:List Nat}(hz:z.Nodup)(h:Part z.length 0 o)(ar:List Arc):Zbq y (ZaG z o) ar=(Zbq y z ar).map λ e=>(e.1,((o.idxOf e.2.toNat:Nat):Int)):=by
 rw[Zbq,Zbq,List.map_flatMap]
 congr 1
 funext x
 rw[Zfq,Zfq,ZpU hz h];by_cases c:0<=placeF y x.1
 ·by_cases c2:0<=placeF z x.2
  ·rw[if_pos c2,if_pos ⟨c,by omega⟩,if_pos ⟨c,c2⟩];rfl
  ·rw[if_neg c2,if_neg (λ h=>by omega),if_neg (λ h=>c2 h.2)];rfl
 ·rw[if_neg (λ h=>c h.1),if_neg (λ h=>c h.1)];rfl
theorem Near.perm_up {a a':Lv}{i:Nat}{y z:List Int}{o:List Nat}(h:Near a i y z)(h':Near a' i (ZaG y o) z)(har:a'.2.2.1=a.2.2.1)(ho:Part y.length 0 o):
  ZbP a' i=Zan (λ u v=>Zag (ZaQ a i ((i:Int)+1)) u v) o:=by
 have hy:y.Nodup:=(gY.1 (ZeB h.ok)).1 y (uA h.hy);have hin:=h.ins;rw[h'.between,Near.cr,har,Zwe hy ho,Zky];rw[ZqZ (own:=λ e=>e.1) (oth:=λ e=>e.2) (P:=Zbq y z a.2.2.1) ho.nd (λ e he=>⟨(hin e he).1,Zfj y.length ho.nd ho.lt (by have:=ho.len;omega) _ (by have:=hin e he;omega)⟩)
  (λ u hu v hv hne=>by rw[h.cellD (ho.lt u hu) (ho.lt v hv),if_neg hne])]
 exact ZhU λ x _ w _=>Zhm ⟨λ h2=>⟨by have:=h2.1;dsimp only at this;omega,h2.2⟩,λ h2=>⟨by have:=h2.1;dsimp only;omega,h2.2⟩⟩
theorem Near.perm_dn {a a':Lv}{i:Nat}{y z:List Int}{o:List Nat}(h:Near a i y z)(h':Near a' i y (ZaG z o))(har:a'.2.2.1=a.2.2.1)(ho:Part z.length 0 o):
  ZbP a' i=Zan (λ u v=>Zag (ZaQ a ((i:Int)+1) i) u v) o:=by
 have hz:z.Nodup:=(gY.1 (ZeB h.ok)).1 z (uA h.hz);have hin:=h.ins;rw[h'.between,Near.cr,har,Zwd hz ho,Zky,Zng];rw[ZqZ (own:=λ e=>e.2) (oth:=λ e=>e.1) (P:=Zbq y z a.2.2.1) ho.nd (λ e he=>⟨(hin e he).2.2.1,Zfj z.length ho.nd ho.lt (by have:=ho.len;omega) _ (by have:=hin e he;omega)⟩)
  (λ u hu v hv hne=>by rw[h.cellU (ho.lt u hu) (ho.lt v hv),if_neg hne])]
 exact ZhU λ x _ w _=>Zhm ⟨λ h2=>⟨by have:=h2.2;dsimp only at this;omega,h2.1⟩,λ h2=>⟨h2.2,by have:=h2.1;dsimp only;omega⟩⟩
end Go.Proofs.YtjjbhjnpeenbkaaGreatDoor
namespace Go.Proofs.YtjjbhjnpeenbkaaGreatDoor
open Go Go.PS Go.Proofs
open Go.Bd (Zan ZfA ZfB Part Zfj)
def ZbO (a:Lv)(i:Nat)(y:List Int):Lv:=(a.1,a.2.1.set i y,a.2.2.1,a.2.2.2)
theorem Zqa (n:Nat):Part n 0 (List.range n):=⟨zT,λ v hv=>yD.1 hv,by simp⟩
theorem Zwi (y:List Int):ZaG y (List.range y.length)=y:=by
 refine qL λ k=>?_
 rw[ZaG,uI];by_cases h:k<y.length
 ·rw[qQ h,yV,uL h];rfl
 ·rw[uP (by simpa using h),uP (by omega)];rfl
def Zgy (a:Lv)(i:Nat)(u v:Nat):Int:=Zag (ZaQ a i ((i:Int)-1)) u v+Zag (ZaQ a i ((i:Int)+1)) u v
theorem Zq4 {f g:Nat->Int}(i:Nat)(h:∀j,j≠i->j+1≠i->f j=g j):∀n,ZaE f n=ZaE g n+(if i<n then f i-g i else 0)+(if 0<i/\i<=n then f (i-1)-g (i-1)else 0)
 |0=>by simp only[ZaE];rw[if_neg (by omega),if_neg (by omega)];rfl
 |n+1=>by
  rw[ZaE,ZaE,Zq4 i h n];by_cases c1:n=i
  ·subst c1
   (repeat' split)<;>omega
  ·by_cases c2:n+1=i
   ·subst c2;simp only[zY]
    (repeat' split)<;>omega
   ·rw[h n c1 c2]
    (repeat' split)<;>omega
theorem Zjh {a:Lv}{j:Nat}(h:¬j+1<a.2.1.length):ZbP a j=0:=by
 rw[ZbP,if_pos (by simp only[ZjO,uG];omega)]
theorem ZwC {a:Lv}{i:Nat}{y:List Int}{o:List Nat}(hv:Zay a=true)(hv':Zay (ZbO a i (ZaG y o))=true)(hy:a.2.1[i]? =some y)(ho:Part y.length 0 o):
  Za2 (ZbO a i (ZaG y o))-Za2 a=Zan (Zgy a i) o-Zan (Zgy a i) (List.range y.length):=by
 have hil:=(uB.1 hy).1;have hlen:(ZbO a i (ZaG y o)).2.1.length=a.2.1.length:=yL;have hget:∀j,j≠i->(ZbO a i (ZaG y o)).2.1[j]? =a.2.1[j]? :=λ j hj=>kL (Ne.symm hj)
 have hget2:(ZbO a i (ZaG y o)).2.1[i]? =some (ZaG y o):=kW hil;have hrp:=Zqa y.length;have hpr:=Zwi y
 have he:∀j:Nat,j≠i->j+1≠i->ZbP (ZbO a i (ZaG y o)) j=ZbP a j:=λ j h1 h2=>by
  by_cases c:j+1<a.2.1.length
  ·obtain⟨p,q,hn⟩:=ZlK hv c;have hn':Near (ZbO a i (ZaG y o)) j p q:=⟨hv',(hget j h1).trans hn.hy,(hget (j+1) h2).trans hn.hz⟩;rw[hn.between,hn'.between];rfl
  ·rw[Zjh c,Zjh (by rw[hlen];exact c)]
 have hup:ZbP (ZbO a i (ZaG y o)) i-ZbP a i=Zan (Zag (ZaQ a i ((i:Int)+1))) o-Zan (Zag (ZaQ a i ((i:Int)+1))) (List.range y.length):=by
  by_cases c:i+1<a.2.1.length
  ·obtain⟨p,z,hn⟩:=ZlK hv c;obtain rfl:p=y:=by have:=hn.hy;rw[hy]at this;cases this;rfl
   have hn':Near (ZbO a i (ZaG p o)) i (ZaG p o) z:=⟨hv',hget2,(hget (i+1) (by omega)).trans hn.hz⟩;have hn0:Near a i (ZaG p (List.range p.length)) z:=by rw[hpr];exact hn
   rw[hn.perm_up hn' rfl ho,hn.perm_up hn0 rfl hrp]
  ·have hm:ZaQ a i ((i:Int)+1)=[]:=by
    rw[ZaQ,if_neg];intro hh;simp only[Zeb,uO,uG]at hh;omega
   have hz:Zag (ZaQ a i ((i:Int)+1))=λ _ _=>0:=by funext u v;rw[hm];rfl
   rw[hz,ZfB,ZfB,Zjh c,Zjh (by rw[hlen];exact c)]
 have hdn:(if 0<i/\i<=a.2.1.length then ZbP (ZbO a i (ZaG y o)) ((i-1:Nat):Int)-ZbP a ((i-1:Nat):Int)else 0)=
   Zan (Zag (ZaQ a i ((i:Int)-1))) o-Zan (Zag (ZaQ a i ((i:Int)-1))) (List.range y.length):=by
  by_cases c:0<i
  ·obtain⟨k,rfl⟩:∃k,i=k+1:=⟨i-1,by omega⟩;rw[if_pos ⟨c,by omega⟩,zY,show((k+1:Nat):Int)-1=(k:Int) by omega,show((k+1:Nat):Int)=(k:Int)+1 by omega];obtain⟨x,p,hn⟩:=ZlK hv (i:=k) (by omega);obtain rfl:p=y:=by have:=hn.hz;rw[hy]at this;cases this;rfl
   have hn':Near (ZbO a (k+1) (ZaG p o)) k x (ZaG p o):=⟨hv',(hget k (by omega)).trans hn.hy,hget2⟩;have hn0:Near a k x (ZaG p (List.range p.length)):=by rw[hpr];exact hn
   rw[hn.perm_dn hn' rfl ho,hn.perm_dn hn0 rfl hrp]
  ·obtain rfl:i=0:=by omega
   have hm:ZaQ a ((0:Nat):Int) (((0:Nat):Int)-1)=[]:=by
    rw[ZaQ,if_neg];intro hh;simp only[Zeb,uO,uG]at hh;omega
   have hz:Zag (ZaQ a ((0:Nat):Int) (((0:Nat):Int)-1))=λ _ _=>0:=by funext u v;rw[hm];rfl
   rw[hz,ZfB,ZfB,if_neg (by omega)];rfl
 have hb:Zgy a i=λ u v=>Zag (ZaQ a i ((i:Int)-1)) u v+Zag (ZaQ a i ((i:Int)+1)) u v:=rfl
 rw[Za2,Za2,hlen,Zq4 i he a.2.1.length,if_pos hil,hdn,hup,hb,ZfA,ZfA];omega
end Go.Proofs.YtjjbhjnpeenbkaaGreatDoor
namespace Go.Proofs.YtjjbhjnpeenbkaaGreatDoor
open Go Go.PS Go.Proofs
set_option maxRecDepth 100000
theorem ZcN {n:Nat}{cs:List D}(h:Zbl Tryz.prog (n+1) 3 cs):∃m:Int,cs=[.int m]:=by
 have hu:Tryz.prog.underlying 3=some (.int .i64):=by kernel_rfl
 simp only[Zbl,hu]at h;obtain⟨m,rfl,_⟩:=h;exact⟨m,rfl⟩
end Go.Proofs.YtjjbhjnpeenbkaaGreatDoor
namespace Go.Proofs.YtjjbhjnpeenbkaaGreatDoor.Gr
open Go Go.PS Go.Proofs
set_option maxRecDepth 100000
attribute [local irreducible] Zab wpG Zaa Zaf
abbrev Zbd (s:ByteArray):D:= .sc (.string s)
def Zio (c:Int):Bool:=(decide (97<=c)&&decide (c<=122))||(decide (65<=c)&&decide (c<=90))||decide (c=95)
def Zh5 (c:Int):Bool:=decide (48<=c)&&decide (c<=57)
theorem Zu4 (c:Int):Zaa Tryz.prog 199 [.sc (.int .u8 c)] (.bool (Zio c)):=by
 refine kE Tryz.func199 ?_;intro hat B X w0;refine kw kO kc0 kc0 ?_
 repeat' first|exact True.intro|refine Bn.mk ?_ ?_|intro hc
 all_goals
  refine Zaj ?_;rw[gK];simp[Zio]
  try omega
theorem Ztr (c:Int):Zaa Tryz.prog 200 [.sc (.int .u8 c)] (.bool (Zh5 c)):=by
 refine kE Tryz.func200 ?_;intro hat B X w0;refine kw kO kc0 kc0 ?_
 repeat' first|exact True.intro|refine Bn.mk ?_ ?_|intro hc
 all_goals
  refine Zaj ?_;rw[gK];simp[Zh5]
  try omega
def ZgH (s:ByteArray)(n:Nat):Bool:=decide (n<s.size)&&(Zio ((Zcq s).getD n 0)||(decide (0<n)&&Zh5 ((Zcq s).getD n 0)))
def Zko (s:ByteArray):Nat:=((List.range (s.size+1)).findIdx? λ n=> !ZgH s n).getD 0
theorem ZzV {s:ByteArray}{n:Nat}(h:∀j,j<n->ZgH s j=true)(hn:ZgH s n=false)(hl:n<=s.size):Zko s=n:=by
 rw[Zko,Zer (k:=n) (qQ (by omega)) (by rw[hn];rfl) (λ j y hj hy=>by
  rw[qQ (by omega)]at hy;cases hy;rw[h j hj];rfl)]
 rfl
theorem ZzW (s:ByteArray)(hs:s.size<=1000000):Zaa Tryz.prog 147 [Zbd s] (.int (Zko s)):=by
 have h1:=Zu4;have h2:=Ztr;refine kE Tryz.func147 ?_;intro hat B X w0;refine kw1 kO kc0 kc0 ?_;refine Zai (λ(n:Nat)=>n<=s.size/\∀j,j<n->ZgH s j=true) (λ n=>[(0, .d (Zbd s)),(3, .int n)]) (λ n=>[]) (λ n=>s.size-n) 0 ?_ ?_ ?_
 ·exact⟨uJ _,λ j h=>by omega⟩
 ·exact kN kc0 []
 ·rintro n ⟨hn,hinv⟩;have hg:=λ h=>ZzV hinv h hn
  rcases uF n s.size with hlt|hge
  ·generalize hb:(Zcq s).getD n 0=b;have e:ZgH s n=(Zio b||(decide (0<n)&&Zh5 b)):=by rw[ZgH,hb,yM hlt,kK]
   have h1b:=h1 b;have h2b:=h2 b;rcases c1:Zio b with _|_<;>rw[c1]at h1b e
   ·by_cases c0:0<n
    ·have c0':(0:Int)<n:=by omega
     rw[yM c0]at e;rcases c2:Zh5 b with _|_<;>rw[c2]at h2b e
     ·refine kw1 kO (kc2 hb @c0') (kc2 h1b h2b) ?_;exact Zah (by rw[hg e])
     ·refine kw1 kO (kc2 hb @c0') (kc2 h1b h2b) ?_;refine⟨n+1,?_,kN kc0 [],?_⟩
      ·exact⟨hlt,λ j hj=>by rcases uF j n with h|h;exact hinv j h;rw[show j=n by omega];exact e⟩
      ·omega
    ·have c0':¬(0:Int)<n:=by omega
     rw[yC c0]at e;refine kw1 kO (kc2 hb @c0') (kc1 h1b) ?_;exact Zah (by rw[hg e])
   ·refine kw1 kO (kc1 hb) (kc1 h1b) ?_;refine⟨n+1,?_,kN kc0 [],?_⟩
    ·exact⟨hlt,λ j hj=>by rcases uF j n with h|h;exact hinv j h;rw[show j=n by omega];exact e⟩
    ·omega
  ·refine kw1 kO kc0 kc0 ?_;exact Zah (by rw[hg (by simp[ZgH];omega)])
def Zly (s:ByteArray):Bool:=decide (s=⟨#[100,105,103,114,97,112,104]⟩)||decide (s=⟨#[103,114,97,112,104]⟩)||decide (s=⟨#[110,111,100,101]⟩)||decide (s=⟨#[101,100,103,101]⟩)||decide (s=⟨#[115,101,116]⟩)||decide (s=⟨#[99,108,117,115,116,101,114]⟩)
theorem ZuK (s:ByteArray):Zaa Tryz.prog 148 [Zbd s] (.bool (Zly s)):=by
 refine kE Tryz.func148 ?_;intro hat B X w0
 repeat' first|refine ZbD rfl ?_|refine Za1 ?_|refine wR ?_|(refine ZbF rfl rfl (λ hc=>?_) (λ hc=>?_)<;>try simp only[hcL]at hc)|(refine ZbC _ rfl rfl (λ hc=>?_) (λ hc=>?_)<;>(try simp only[hcL]at hc)<;>try omega)|simp(disch:=omega) only[go_sem,simprocAttr]|apply And.intro|omega|decide+kernel
 all_goals
  refine Zaj ?_
  simp_all [Zly]
def ZdH (s:ByteArray):Bool:=decide (s≠⟨#[]⟩)&&decide (s.size<=16)&&decide (Zko s=s.size)&& !Zly s
theorem ZjN (s:ByteArray)(hs:s.size<=1000000):Zaa Tryz.prog 90 [Zbd s] (.bool (ZdH s)):=by
 have h1:=ZzW s hs;have h2:=ZuK s;refine kE Tryz.func90 ?_;intro hat B X w0;refine kw kO kc0 (kc2 h1 h2) ?_
 repeat' first|exact True.intro|refine Bn.mk ?_ ?_|intro hc
 all_goals
  refine Zaj ?_;rw[gK];simp[ZdH]
  first|done|omega|(intro _;exact⟨⟨by assumption,by omega⟩,by omega⟩)|(intros;contradiction)
structure Pt where
 nm:ByteArray
 sd:Int
structure Nd where
 nm:ByteArray
 lb:ByteArray
 w:Int
 h:Int
 cl:Int
 ps:List Pt
structure Ed where
 fr:Int
 to:Int
 fp:Int
 tp:Int
 lb:ByteArray
 wt:Int
 ln:Int
structure Cl where
 nm:ByteArray
 pa:Int
structure Gph where
 nm:ByteArray
 dir:Bool
 ns:List Nd
 es:List Ed
 cs:List Cl
abbrev ptD (p:Pt):D:= .ag [Zbd p.nm, .int p.sd]
abbrev ndD (n:Nd):D:= .ag [Zbd n.nm,Zbd n.lb, .int n.w, .int n.h, .int n.cl, .sl (n.ps.map ptD)]
abbrev edD (e:Ed):D:= .ag [.int e.fr, .int e.to, .int e.fp, .int e.tp,Zbd e.lb, .int e.wt, .int e.ln]
abbrev clD (c:Cl):D:= .ag [Zbd c.nm, .int c.pa]
abbrev ZbS (g:Gph):D:= .ag [Zbd g.nm, .bool g.dir, .sl (g.ns.map ndD), .sl (g.es.map edD), .sl (g.cs.map clD)]
def fe (f:Nat->Int):Nat->Int
 |0=>0
 |k+1=>if fe f k=0 then f k else fe f k
theorem Zjv {f:Nat->Int}{k:Nat}(h:fe f k=0)(hk:f k=0):fe f (k+1)=0:=by rw[fe,if_pos h,hk]
theorem ZgD {f:Nat->Int}{k:Nat}(h:fe f k=0)(hk:f k≠0):∀n,k<n->fe f n=f k:=by
 intro n
 induction n with
 |zero=>intro hn;omega
 |succ n ih=>
  intro hn;rw[fe];rcases uF k n with h1|h1
  ·rw[ih h1,if_neg hk]
  ·rw[show n=k by omega,if_pos h]
theorem Zom {f:Nat->Int}:∀{n:Nat},fe f n=0->∀k,k<n->f k=0:=by
 intro n
 induction n with
 |zero=>intro _ k hk;omega
 |succ n ih=>
  intro h k hk;rw[fe]at h;by_cases h0:fe f n=0
  ·rw[if_pos h0]at h;rcases uF k n with h1|h1
   ·exact ih h0 k h1
   ·rw[show k=n by omega];exact h
  ·rw[if_neg h0]at h;exact absurd h h0
theorem Zuq (l:List Nd)(g:Nat)(caps:List D)(p:Nd->Bool)(hp:∀x,Zaa Tryz.prog g (ndD x::caps) (.bool (p x))):Zaa Tryz.prog 201 [.sl (l.map ndD), .fn g caps] (.int (ZcD (l.findIdx? p))):=by
 refine kE Tryz.func201 ?_;intro hat B X w0;have hl:=Zbb 0 hat rfl;rw[uE]at hl;refine kw1 kO kc0 kc0 ?_;refine Zai (λ(k:Nat)=>k<=l.length/\∀(j:Nat) y,j<k->l[j]? =some y->p y=false) (λ k=>[(0, .d (.sl (l.map ndD))),(1, .d (.fn g caps)),(7, .int l.length),(8, .int k)]) (λ k=>[]) (λ k=>l.length-k) 0 ?_ ?_ ?_
 ·exact⟨uJ _,λ j y h=>by omega⟩
 ·exact kN kc0 []
 ·rintro k ⟨hk,hinv⟩;rcases uF k l.length with hlt|hge
  ·obtain⟨x,hx⟩:=Zad hlt;have hpx:=hp x;rcases hb:p x with _|_<;>rw[hb]at hpx
   ·refine kw1 kO (kc1 hx) (kc1 (kcc [ndD x] caps hpx)) ?_;refine⟨k+1,?_,kN kc0 [],?_⟩
    ·exact⟨by omega,ZbI hinv hx hb⟩
    ·omega
   ·refine kw1 kO (kc1 hx) (kc1 (kcc [ndD x] caps hpx)) ?_;refine Zah ?_;rw[Zer hx hb hinv];rfl
  ·refine kw1 kO kc0 kc0 ?_;refine Zah ?_;rw[ZeS (λ j y hy=>hinv j y (by have:=(uB.1 hy).1;omega) hy)];rfl
theorem Zur (l:List Pt)(g:Nat)(caps:List D)(p:Pt->Bool)(hp:∀x,Zaa Tryz.prog g (ptD x::caps) (.bool (p x))):Zaa Tryz.prog 235 [.sl (l.map ptD), .fn g caps] (.int (ZcD (l.findIdx? p))):=by
 refine kE Tryz.func235 ?_;intro hat B X w0;have hl:=Zbb 0 hat rfl;rw[uE]at hl;refine kw1 kO kc0 kc0 ?_;refine Zai (λ(k:Nat)=>k<=l.length/\∀(j:Nat) y,j<k->l[j]? =some y->p y=false) (λ k=>[(0, .d (.sl (l.map ptD))),(1, .d (.fn g caps)),(7, .int l.length),(8, .int k)]) (λ k=>[]) (λ k=>l.length-k) 0 ?_ ?_ ?_
 ·exact⟨uJ _,λ j y h=>by omega⟩
 ·exact kN kc0 []
 ·rintro k ⟨hk,hinv⟩;rcases uF k l.length with hlt|hge
  ·obtain⟨x,hx⟩:=Zad hlt;have hpx:=hp x;rcases hb:p x with _|_<;>rw[hb]at hpx
   ·refine kw1 kO (kc1 hx) (kc1 (kcc [ptD x] caps hpx)) ?_;refine⟨k+1,?_,kN kc0 [],?_⟩
    ·exact⟨by omega,ZbI hinv hx hb⟩
    ·omega
   ·refine kw1 kO (kc1 hx) (kc1 (kcc [ptD x] caps hpx)) ?_;refine Zah ?_;rw[Zer hx hb hinv];rfl
  ·refine kw1 kO kc0 kc0 ?_;refine Zah ?_;rw[ZeS (λ j y hy=>hinv j y (by have:=(uB.1 hy).1;omega) hy)];rfl
theorem Zun (l:List Cl)(g:Nat)(caps:List D)(p:Cl->Bool)(hp:∀x,Zaa Tryz.prog g (clD x::caps) (.bool (p x))):Zaa Tryz.prog 205 [.sl (l.map clD), .fn g caps] (.int (ZcD (l.findIdx? p))):=by
 refine kE Tryz.func205 ?_;intro hat B X w0;have hl:=Zbb 0 hat rfl;rw[uE]at hl;refine kw1 kO kc0 kc0 ?_;refine Zai (λ(k:Nat)=>k<=l.length/\∀(j:Nat) y,j<k->l[j]? =some y->p y=false) (λ k=>[(0, .d (.sl (l.map clD))),(1, .d (.fn g caps)),(7, .int l.length),(8, .int k)]) (λ k=>[]) (λ k=>l.length-k) 0 ?_ ?_ ?_
 ·exact⟨uJ _,λ j y h=>by omega⟩
 ·exact kN kc0 []
 ·rintro k ⟨hk,hinv⟩;rcases uF k l.length with hlt|hge
  ·obtain⟨x,hx⟩:=Zad hlt;have hpx:=hp x;rcases hb:p x with _|_<;>rw[hb]at hpx
   ·refine kw1 kO (kc1 hx) (kc1 (kcc [clD x] caps hpx)) ?_;refine⟨k+1,?_,kN kc0 [],?_⟩
    ·exact⟨by omega,ZbI hinv hx hb⟩
    ·omega
   ·refine kw1 kO (kc1 hx) (kc1 (kcc [clD x] caps hpx)) ?_;refine Zah ?_;rw[Zer hx hb hinv];rfl
  ·refine kw1 kO kc0 kc0 ?_;refine Zah ?_;rw[ZeS (λ j y hy=>hinv j y (by have:=(uB.1 hy).1;omega) hy)];rfl
theorem Ztk (l:List Pt)(g:Nat)(caps:List D)(p:Pt->Bool)(hp:∀x,Zaa Tryz.prog g (ptD x::caps) (.bool (p x))):Zaa Tryz.prog 203 [.sl (l.map ptD), .fn g caps] (.bool (l.any p)):=by
 have h:=Zur l g caps p hp;refine kE Tryz.func203 ?_;intro hat B X w0;refine kw1 kO kc0 (kc1 h) ?_;exact Zaj (ZgI p l)
theorem Zti (l:List Cl)(g:Nat)(caps:List D)(p:Cl->Bool)(hp:∀x,Zaa Tryz.prog g (clD x::caps) (.bool (p x))):Zaa Tryz.prog 153 [.sl (l.map clD), .fn g caps] (.bool (l.any p)):=by
 have h:=Zun l g caps p hp;refine kE Tryz.func153 ?_;intro hat B X w0;refine kw1 kO kc0 (kc1 h) ?_;exact Zaj (ZgI p l)
theorem ZtU (n:Nd)(s:ByteArray):Zaa Tryz.prog 202 [ndD n, .pt [Zbd s]] (.bool (decide (n.nm=s))):=by
 refine kE Tryz.func202 ?_;intro hat B X w0;refine kw1 kO kc0 kc0 ?_;exact Zaj rfl
theorem Ztb (c:Cl)(s:ByteArray)(k:Int):Zaa Tryz.prog 154 [clD c, .pt [Zbd s, .int k]] (.bool (decide (c.nm=s))):=by
 refine kE Tryz.func154 ?_;intro hat B X w0;refine kw1 kO kc0 kc0 ?_;exact Zaj rfl
theorem Zwr (c:Pt)(s:ByteArray)(k:Int):Zaa Tryz.prog 204 [ptD c, .pt [Zbd s, .int k]] (.bool (decide (c.nm=s))):=by
 refine kE Tryz.func204 ?_;intro hat B X w0;refine kw1 kO kc0 kc0 ?_;exact Zaj rfl
def ZgE (g:Gph)(s:ByteArray):Int:=ZcD (g.ns.findIdx? λ n=>decide (n.nm=s))
theorem Zjw (g:Gph)(s:ByteArray):Zaa Tryz.prog 149 [ZbS g,Zbd s] (.int (ZgE g s)):=by
 have h:=Zuq g.ns 202 [.pt [Zbd s]] (λ n=>decide (n.nm=s)) (λ x=>ZtU x s);refine kE Tryz.func149 ?_;intro hat B X w0;refine kw1 kO kc0 (kc1 h) ?_;exact Zah rfl
def ZcL (c:Int):Bool:=decide (c<32)||decide (126<c)
def ZeV (s:ByteArray):Int:=if 32<s.size then 2 else if(Zcq s).any ZcL then 7 else 0
theorem ZsK {s:ByteArray}{k:Nat}(h:k<s.size):(Zcq s)[k]? =some ((Zcq s).getD k 0):=by
 have:=ZeM s;rw[jC,uL (by omega)];rfl
theorem ZoZ (s:ByteArray):Zaa Tryz.prog 150 [Zbd s] (.int (ZeV s)):=by
 have hbl:=ZeM s;have hbd:(ZcM s).length=s.size:=by rw[ZcM,uE,hbl]
 rw[ZeV];by_cases h32:32<s.size
 ·rw[if_pos h32];refine kE Tryz.func150 ?_;intro hat B X w0;refine kw1 kO kc0 kc0 ?_;exact Zah rfl
 ·rw[if_neg h32];refine kE Tryz.func150 ?_;intro hat B X w0;refine kw1 kO (kc1 hbd) kc0 ?_;refine Zai (λ(k:Nat)=>k<=s.size/\∀(j:Nat) y,j<k->(Zcq s)[j]? =some y->ZcL y=false) (λ k=>[(9, .d (.sl (ZcM s))),(10, .int s.size),(11, .int k)]) (λ k=>[]) (λ k=>s.size-k) 0 ?_ ?_ ?_
  ·exact⟨uJ _,λ j y h=>by omega⟩
  ·exact kN kc0 []
  ·rintro k ⟨hk,hinv⟩;rcases uF k s.size with hlt|hge
   ·have hx:=ZsK hlt;generalize(Zcq s).getD k 0=c at hx;have hd:(ZcM s)[k]? =some (.sc (.int .u8 c)):=by rw[ZcM,uI,hx];rfl
    by_cases h1:c<32
    ·refine kw1 kO (kc3 hd hbd h1) kc0 ?_;refine Zah ?_;rw[if_pos (ZcZ (q:=ZcL) hx (by rw[ZcL,yM h1];rfl))]
    ·by_cases h2:126<c
     ·refine kw1 kO (kc4 hd hbd h1 h2) kc0 ?_;refine Zah ?_;rw[if_pos (ZcZ (q:=ZcL) hx (by rw[ZcL,yM h2,Bool.or_true]))]
     ·refine kw1 kO (kc4 hd hbd h1 h2) kc0 ?_;refine⟨k+1,?_,kN kc0 [],?_⟩
      ·exact⟨hlt,ZbI hinv hx (by rw[ZcL,yC h1,yC h2];rfl)⟩
      ·omega
   ·refine kw1 kO kc0 kc0 ?_;refine Zah ?_;rw[if_neg (by rw[ZdB (q:=ZcL) (λ j y hj=>hinv j y (by omega))];decide)]
def Zgk (n:Int):Bool:=decide (1<=n)&&decide (n<=1048576)
theorem ZqM (n:Int):Zaa Tryz.prog 151 [.int n] (.bool (Zgk n)):=by
 refine kE Tryz.func151 ?_;intro hat B X w0;refine kw kO kc0 kc0 ?_
 repeat' first|exact True.intro|refine Bn.mk ?_ ?_|intro hc
 all_goals
  refine Zaj ?_;rw[gK];simp[Zgk]
  try omega
def ZjU (l:List Pt)(i:Nat):Int:=match l[i]? with
 |none=>0
 |some p=>if ZdH p.nm=false then 5 else if(l.take i).any (λ q=>decide (q.nm=p.nm))then 6 else if p.sd<0\/3<p.sd then 7 else 0
def ZjV (l:List Pt):Int:=if 8<l.length then 2 else fe (ZjU l) l.length
theorem Zws {l:List Pt}{i:Nat}{p:Pt}(h:l[i]? =some p):ZjU l i=if ZdH p.nm=false then 5 else if(l.take i).any (λ q=>decide (q.nm=p.nm))then 6 else if p.sd<0\/3<p.sd then 7 else 0:=by rw[ZjU,h]
theorem Zwt (l:List Pt)(hn:∀p∈l,p.nm.size<=1000000):Zaa Tryz.prog 152 [.sl (l.map ptD)] (.int (ZjV l)):=by
 rw[ZjV];by_cases h8:8<l.length
 ·rw[if_pos h8];refine kE Tryz.func152 ?_;intro hat B X w0;refine kw1 kO kc0 kc0 ?_;exact Zah rfl
 ·rw[if_neg h8];refine kE Tryz.func152 ?_;intro hat B X w0;refine kw1 kO kc0 kc0 ?_;refine Zai (λ(k:Nat)=>k<=l.length/\fe (ZjU l) k=0) (λ k=>[(0, .d (.sl (l.map ptD))),(8, .d (.sl (l.map ptD))),(9, .int l.length),(10, .int k)]) (λ k=>[]) (λ k=>l.length-k) 0 ?_ ?_ ?_
  ·exact⟨uJ _,rfl⟩
  ·exact kN kc0 []
  ·rintro k ⟨hk,hinv⟩;rcases uF k l.length with hlt|hge
   ·obtain⟨p,hp⟩:=Zad hlt;have e:=Zws hp;have h1:=ZjN p.nm (hn p (uA hp));have h2:=Ztk (l.take k) 204 [.pt [Zbd p.nm, .int p.sd]] (λ q=>decide (q.nm=p.nm)) (λ x=>Zwr x p.nm p.sd);have hlt':(l.take k).map ptD=(l.map ptD).take k:=Ac;rw[hlt']at h2;rcases c1:ZdH p.nm with _|_<;>rw[c1]at h1 e
    ·rw[if_pos rfl]at e;refine kw1 kO (kc1 hp) (kc1 h1) ?_;exact Zah (by rw[ZgD hinv (by rw[e];decide) _ hlt,e])
    ·rw[if_neg (by decide)]at e;rcases c2:(l.take k).any (λ q=>decide (q.nm=p.nm))with _|_<;>rw[c2]at h2 e
     ·rw[if_neg (by decide)]at e;by_cases c3:p.sd<0
      ·rw[if_pos (.inl c3)]at e;refine kw kO (kc2 hp c3) (kc2 h1 h2) ?_
       repeat' first|exact True.intro|refine Bn.mk ?_ ?_|intro hc
       exact Zah (by rw[ZgD hinv (by rw[e];decide) _ hlt,e])
      ·by_cases c4:3<p.sd
       ·rw[if_pos (.inr c4)]at e;refine kw kO (kc3 hp c3 c4) (kc2 h1 h2) ?_
        repeat' first|exact True.intro|refine Bn.mk ?_ ?_|intro hc
        exact Zah (by rw[ZgD hinv (by rw[e];decide) _ hlt,e])
       ·rw[if_neg (by omega)]at e;refine kw kO (kc3 hp c3 c4) (kc2 h1 h2) ?_
        repeat' first|exact True.intro|refine Bn.mk ?_ ?_|intro hc
        refine⟨k+1,?_,eL [] _ _ (by refine⟨?_,?_⟩<;>(repeat' first|exact fmn|refine fmc ⟨(by first|rfl|(simp(disch:=omega) only[go_sem,simprocAttr,inL];first|done|omega|(congr 1;done))),?_⟩);done),?_⟩
        ·exact⟨hlt,Zjv hinv e⟩
        ·omega
     ·rw[if_pos rfl]at e;refine kw kO (kc1 hp) (kc2 h1 h2) ?_
      repeat' first|exact True.intro|refine Bn.mk ?_ ?_|intro hc
      exact Zah (by rw[ZgD hinv (by rw[e];decide) _ hlt,e])
   ·refine kw1 kO kc0 kc0 ?_;exact Zah (by rw[show l.length=k by omega,hinv])
structure Mod (g:Gph):Prop where
 nm:g.nm.size<=1000000
 ns:∀n∈g.ns,n.nm.size<=1000000/\n.lb.size<=1000000/\∀p∈n.ps,p.nm.size<=1000000
 es:∀e∈g.es,e.lb.size<=1000000
 cs:∀c∈g.cs,c.nm.size<=1000000
def ZfW (g:Gph)(i:Nat):Int:=match g.ns[i]? with
 |none=>0
 |some n=>if ZdH n.nm=false then 5 else if ZgE g n.nm<i then 6 else if ZeV n.lb≠0 then ZeV n.lb
  else if Zgk n.w=false\/Zgk n.h=false\/n.cl< -1\/(g.cs.length:Int)<=n.cl then 3 else ZjV n.ps
def Zfc (cs:List Cl):Nat->Int->List Int
 |0,_=>[]
 |f+1,c=>if c<0 then[]else c::Zfc cs f (match cs[c.toNat]? with|some x=>x.pa|none=>-1)
def Zc0 (cs:List Cl)(c:Int):List Int:=Zfc cs (c+1).toNat c
def Zfd (g:Gph)(i:Nat):Int:=match g.cs[i]? with
 |none=>0
 |some c=>if ZdH c.nm=false then 5 else if 0<=ZgE g c.nm\/(g.cs.take i).any (λ x=>decide (x.nm=c.nm))=true then 6 else if c.pa< -1\/(i:Int)<=c.pa then 3 else if 6<(Zc0 g.cs i).length then 2 else 0
def ZjW (g:Gph)(v:Int):Nat:=match g.ns[v.toNat]? with|some n=>n.ps.length|none=>0
def Zhf (g:Gph)(e:Ed):Int:=
 if e.fr<0\/e.to<0\/(g.ns.length:Int)<=e.fr\/(g.ns.length:Int)<=e.to\/e.fp< -1\/e.tp< -1\/(ZjW g e.fr:Int)<=e.fp\/(ZjW g e.to:Int)<=e.tp then 3
 else if ZeV e.lb≠0 then ZeV e.lb else if e.wt<1\/1000<e.wt\/e.ln<1\/64<e.ln then 7 else 0
def ZgC (g:Gph)(i:Nat):Int:=match g.es[i]? with|none=>0|some e=>Zhf g e
def Zdx (g:Gph):Int:=if 64<g.ns.length\/256<g.es.length\/16<g.cs.length then 2 else if ZdH g.nm=false then 5
 else if fe (ZfW g) g.ns.length≠0 then fe (ZfW g) g.ns.length else if fe (Zfd g) g.cs.length≠0 then fe (Zfd g) g.cs.length else fe (ZgC g) g.es.length
theorem ZvD {g:Gph}{i:Nat}{n:Nd}(h:g.ns[i]? =some n):ZfW g i=if ZdH n.nm=false then 5 else if ZgE g n.nm<i then 6 else if ZeV n.lb≠0 then ZeV n.lb
  else if Zgk n.w=false\/Zgk n.h=false\/n.cl< -1\/(g.cs.length:Int)<=n.cl then 3 else ZjV n.ps:=by rw[ZfW,h]
theorem ZnU {g:Gph}{i:Nat}{c:Cl}(h:g.cs[i]? =some c):Zfd g i=if ZdH c.nm=false then 5 else if 0<=ZgE g c.nm\/(g.cs.take i).any (λ x=>decide (x.nm=c.nm))=true then 6 else if c.pa< -1\/(i:Int)<=c.pa then 3 else if 6<(Zc0 g.cs i).length then 2 else 0:=by rw[Zfd,h]
theorem ZvE (g:Gph)(i:Nat)(hm:Mod g)(hi:i<g.ns.length):Zaa Tryz.prog 91 [ZbS g, .int i] (.int (ZfW g i)):=by
 obtain⟨n,hn⟩:=Zad hi;obtain⟨m1,m2,m3⟩:=hm.ns n (uA hn);have e:=ZvD hn;have h1:=ZjN n.nm m1;have h2:=Zjw g n.nm;have h3:=ZoZ n.lb;have h4:=ZqM n.w;have h5:=ZqM n.h;have h6:=Zwt n.ps m3;rw[e];rcases c1:ZdH n.nm with _|_<;>rw[c1]at h1
 ·rw[if_pos rfl];refine kE Tryz.func91 ?_;intro hat B X w0;refine kw1 kO (kc1 hn) (kc1 h1) ?_;exact Zah rfl
 ·rw[if_neg (by decide)];by_cases c2:ZgE g n.nm<i
  ·rw[if_pos c2];refine kE Tryz.func91 ?_;intro hat B X w0;refine kw1 kO (kc2 hn c2) (kc2 h1 h2) ?_;exact Zah rfl
  ·rw[if_neg c2];by_cases c3:ZeV n.lb=0
   ·rw[if_neg (by omega)];rw[c3]at h3;rcases c4:Zgk n.w with _|_<;>rw[c4]at h4
    ·rw[if_pos (.inl rfl)];refine kE Tryz.func91 ?_;intro hat B X w0;refine kw1 kO (kc2 hn c2) (kc4 h1 h2 h3 h4) ?_;exact Zah rfl
    ·rcases c5:Zgk n.h with _|_<;>rw[c5]at h5
     ·rw[if_pos (.inr (.inl rfl))];refine kE Tryz.func91 ?_;intro hat B X w0;refine kw1 kO (kc2 hn c2) (kc5 h1 h2 h3 h4 h5) ?_;exact Zah rfl
     ·by_cases c6:n.cl< -1
      ·rw[if_pos (.inr (.inr (.inl c6)))];refine kE Tryz.func91 ?_;intro hat B X w0;refine kw1 kO (kc3 hn c2 c6) (kc5 h1 h2 h3 h4 h5) ?_;exact Zah rfl
      ·by_cases c7:(g.cs.length:Int)<=n.cl
       ·rw[if_pos (.inr (.inr (.inr c7)))];refine kE Tryz.func91 ?_;intro hat B X w0;refine kw1 kO (kc4 hn c2 c6 c7) (kc5 h1 h2 h3 h4 h5) ?_;exact Zah rfl
       ·rw[if_neg (by simp;omega)];refine kE Tryz.func91 ?_;intro hat B X w0;refine kw1 kO (kc4 hn c2 c6 c7) (kc6 h1 h2 h3 h4 h5 h6) ?_;exact Zah rfl
   ·rw[if_pos (by omega)];refine kE Tryz.func91 ?_;intro hat B X w0;refine kw1 kO (kc3 hn c2 c3) (kc3 h1 h2 h3) ?_;exact Zah rfl
def ZhS (cs:List Cl)(c0:Int):Prop:=∀(j:Nat) x,cs[j]? =some x->(j:Int)<=c0->-1<=x.pa/\x.pa<j
theorem Zs5 {cs:List Cl}{c0:Int}(h:ZhS cs c0):∀(f:Nat) (c:Int),c<=c0->(c+1).toNat<=f->Zfc cs f c=Zc0 cs c:=by
 intro f
 induction f using Nat.strongRecOn with
 |_ f ih=>
  intro c hc hf;by_cases h0:c<0
  ·rw[Zc0,show(c+1).toNat=0 by omega,Zfc];cases f with
   |zero=>rfl
   |succ f=>rw[Zfc,if_pos h0]
  ·obtain⟨k,rfl⟩:∃k:Nat,c=k:=⟨c.toNat,by omega⟩;cases f with
   |zero=>omega
   |succ f=>
    rw[Zc0,show((k:Int)+1).toNat=k+1 by omega,Zfc,Zfc,if_neg (by omega),if_neg (by omega),uQ]
    congr 1
    cases hx:cs[k]? with
    |none=>
     dsimp only;rw[ih f (by omega) (-1) (by omega) (by omega)];rcases uF k (f+1)with h1|h1
     ·rcases uF k f with h2|h2
      ·rw[ih k (by omega) (-1) (by omega) (by omega)]
      ·rw[ih k (by omega) (-1) (by omega) (by omega)]
     ·omega
    |some x=>
     dsimp only;obtain⟨g1,g2⟩:=h k x hx hc;rw[ih f (by omega) x.pa (by omega) (by omega),ih k (by omega) x.pa (by omega) (by omega)]
theorem Zs6 (cs:List Cl){c:Int}(h:c<0):Zc0 cs c=[]:=by
 rw[Zc0,show(c+1).toNat=0 by omega,Zfc]
theorem Zs7 {cs:List Cl}{c0:Int}(h:ZhS cs c0){k:Nat}{x:Cl}(hx:cs[k]? =some x)(hk:(k:Int)<=c0):Zc0 cs k=(k:Int)::Zc0 cs x.pa:=by
 obtain⟨g1,g2⟩:=h k x hx hk;rw[Zc0,show((k:Int)+1).toNat=k+1 by omega,Zfc,if_neg (by omega),uQ,hx];dsimp only;rw[Zs5 h k x.pa (by omega) (by omega)]
theorem Zsg (g:Gph)(i:Nat)(hi:i<g.cs.length)(hd:ZhS g.cs i)(h1:i<=1000):Zaa Tryz.prog 206 [ZbS g, .int i] (.sl ((Zc0 g.cs i).map D.int)):=by
 refine kE Tryz.func206 ?_;intro hat B X w0;refine kw1 kO kc0 kc0 ?_;refine Zau _ (Zd5 5 901 1 rfl rfl) ?_;refine Zai (λ(q:List Int×Int)=>match q with|(l,c)=>l++Zc0 g.cs c=Zc0 g.cs i/\-1<=c/\c<=i/\(l.length:Int)+c<=i) (λ(l,c)=>[(1, .int c),(2, .ptr 2 0 0 0),(5, .ref 901 1 0 l.length l.length)]) (λ(l,c)=>[(2, .cells [.d (Zbd g.nm), .d (.bool g.dir), .d (.sl (g.ns.map ndD)), .d (.sl (g.es.map edD)), .d (.sl (g.cs.map clD))]),(901, .row 1 (l.map D.int))]) (λ(l,c)=>(c+1).toNat) ([],(i:Int)) ?_ ?_ ?_
 ·exact⟨rfl,by omega,by omega,by simp⟩
 ·exact kN kc0 []
 ·rintro⟨l,c⟩ ⟨q1,q2,q3,q4⟩;dsimp only at q1 q2 q3 q4|-;by_cases h0:c<0
  ·refine kw1 kO (kc1 h0) kc0 ?_;rw[Zs6 _ h0,yO]at q1;exact Zda (o:=901) rfl rfl (by simp) (by rw[uD (by simp),q1])
  ·obtain⟨k,rfl⟩:∃k:Nat,c=k:=⟨c.toNat,by omega⟩;obtain⟨x,hx⟩:=Zad (l:=g.cs) (k:=k) (by omega);obtain⟨g1,g2⟩:=hd k x hx q3;have hs:=Zs7 hd hx q3;refine kw1 kO (kc2 hx @Zat) kc0 ?_;refine⟨(l++[(k:Int)],x.pa),?_,kN (kc5 @uC.{0} @qN.{0} @yB.{0,0} @uX.{0,0} @yT.{0,0}) [(901,11)],?_⟩
   ·refine⟨?_,by omega,by omega,?_⟩
    ·rw[<-q1,hs,yP];rfl
    ·rw[uC,qN];omega
   ·dsimp only;omega
theorem Ztq (g:Gph)(i:Nat)(hi:i<g.cs.length)(hd:ZhS g.cs i)(h1:i<=1000):Zaa Tryz.prog 155 [ZbS g, .int i] (.int (Zc0 g.cs i).length):=by
 have h:=Zsg g i hi hd h1;refine kE Tryz.func155 ?_;intro hat B X w0;refine kw kO kc0 (kc1 h) ?_
 repeat' first|exact True.intro|refine Bn.mk ?_ ?_|intro hc
 exact Zah rfl
theorem Ztt {g:Gph}{i:Nat}(h:fe (Zfd g) i=0){c:Cl}(hc:g.cs[i]? =some c)(h1:¬c.pa< -1)(h2:¬(i:Int)<=c.pa):ZhS g.cs i:=by
 intro j x hx hj;rcases uF j i with hlt|hge
 ·have hz:=Zom h j hlt;rw[ZnU hx]at hz;split at hz
  ·cases hz
  ·split at hz
   ·cases hz
   ·split at hz
    ·cases hz
    ·rename_i hq;omega
 ·obtain rfl:j=i:=by omega
  rw[hc]at hx;cases hx;omega
theorem Ztc (g:Gph)(i:Nat)(hm:Mod g)(hi:i<g.cs.length)(hz:fe (Zfd g) i=0)(h16:g.cs.length<=16):Zaa Tryz.prog 92 [ZbS g, .int i] (.int (Zfd g i)):=by
 obtain⟨c,hc⟩:=Zad hi;have e:=ZnU hc;have h1:=ZjN c.nm (hm.cs c (uA hc));have h2:=Zjw g c.nm;have h3:=Zti (g.cs.take i) 154 [.pt [Zbd c.nm, .int c.pa]] (λ x=>decide (x.nm=c.nm)) (λ x=>Ztb x c.nm c.pa);have ht:(g.cs.take i).map clD=(g.cs.map clD).take i:=Ac;rw[ht]at h3;rw[e];rcases c1:ZdH c.nm with _|_<;>rw[c1]at h1
 ·rw[if_pos rfl];refine kE Tryz.func92 ?_;intro hat B X w0;refine kw1 kO (kc1 hc) (kc1 h1) ?_;exact Zah rfl
 ·rw[if_neg (by decide)];by_cases c2:0<=ZgE g c.nm
  ·rw[if_pos (.inl c2)];refine kE Tryz.func92 ?_;intro hat B X w0;refine kw1 kO (kc2 hc c2) (kc2 h1 h2) ?_;exact Zah rfl
  ·rcases c3:(g.cs.take i).any (λ x=>decide (x.nm=c.nm))with _|_<;>rw[c3]at h3
   ·rw[if_neg (by simp;omega)];by_cases c4:c.pa< -1
    ·rw[if_pos (.inl c4)];refine kE Tryz.func92 ?_;intro hat B X w0;refine kw1 kO (kc3 hc c2 c4) (kc3 h1 h2 h3) ?_;exact Zah rfl
    ·by_cases c5:(i:Int)<=c.pa
     ·rw[if_pos (.inr c5)];refine kE Tryz.func92 ?_;intro hat B X w0;refine kw1 kO (kc4 hc c2 c4 c5) (kc3 h1 h2 h3) ?_;exact Zah rfl
     ·rw[if_neg (by omega)];have h4:=Ztq g i hi (Ztt hz hc c4 c5) (by omega);by_cases c6:6<(Zc0 g.cs i).length
      ·rw[if_pos c6];refine kE Tryz.func92 ?_;intro hat B X w0;refine kw1 kO (kc5 hc c2 c4 c5 c6) (kc4 h1 h2 h3 h4) ?_;exact Zah rfl
      ·rw[if_neg c6];refine kE Tryz.func92 ?_;intro hat B X w0;refine kw1 kO (kc5 hc c2 c4 c5 c6) (kc4 h1 h2 h3 h4) ?_;exact Zah rfl
   ·rw[if_pos (.inr rfl)];refine kE Tryz.func92 ?_;intro hat B X w0;refine kw1 kO (kc2 hc c2) (kc3 h1 h2 h3) ?_;exact Zah rfl
theorem ZpY {g:Gph}{v:Int}{n:Nd}(h:g.ns[v.toNat]? =some n):ZjW g v=n.ps.length:=by rw[ZjW,h]
theorem Zim {a b:Int}(c:Prop)[Decidable c]:(if c then a else b)<b->True:=λ _=>trivial
theorem Ztv (g:Gph)(e:Ed):Zaa Tryz.prog 93 [ZbS g,edD e] (.int (Zhf g e)):=by
 have h1:=ZoZ e.lb;by_cases hin:0<=e.fr/\0<=e.to/\e.fr<g.ns.length/\e.to<g.ns.length
 ·obtain⟨i1,i2,i3,i4⟩:=hin;obtain⟨n1,g1⟩:=Zad (l:=g.ns) (k:=e.fr.toNat) (by omega);obtain⟨n2,g2⟩:=Zad (l:=g.ns) (k:=e.to.toNat) (by omega);have p1:=ZpY g1;have p2:=ZpY g2;have q1:¬(if e.to<e.fr then e.to else e.fr)<0:=by split<;>omega
  have q2:¬(g.ns.length:Int)<=(if e.fr<e.to then e.to else e.fr):=by split<;>omega
  rw[Zhf,p1,p2];by_cases hp:e.fp< -1\/e.tp< -1\/(n1.ps.length:Int)<=e.fp\/(n2.ps.length:Int)<=e.tp
  ·rw[if_pos (by omega)];by_cases k1:(if e.tp<e.fp then e.tp else e.fp)< -1
   ·refine kE Tryz.func93 ?_;intro hat B X w0;refine kw1 kO (kc5 g1 g2 q1 q2 k1) kc0 ?_;exact Zah rfl
   ·have k2:(n1.ps.length:Int)<=e.fp\/(n2.ps.length:Int)<=e.tp:=by split at k1<;>omega
    by_cases k3:(n1.ps.length:Int)<=e.fp
    ·refine kE Tryz.func93 ?_;intro hat B X w0;refine kw1 kO (kc6 g1 g2 q1 q2 k1 k3) kc0 ?_;exact Zah rfl
    ·have k4:(n2.ps.length:Int)<=e.tp:=by omega
     refine kE Tryz.func93 ?_;intro hat B X w0;refine kw1 kO (kc7 g1 g2 q1 q2 k1 k3 k4) kc0 ?_;exact Zah rfl
  ·rw[if_neg (by omega)];have k1:¬(if e.tp<e.fp then e.tp else e.fp)< -1:=by split<;>omega
   have k3:¬(n1.ps.length:Int)<=e.fp:=by omega
   have k4:¬(n2.ps.length:Int)<=e.tp:=by omega
   by_cases c3:ZeV e.lb=0
   ·rw[if_neg (by omega)];rw[c3]at h1;by_cases hw:e.wt<1\/1000<e.wt\/e.ln<1\/64<e.ln
    ·rw[if_pos hw];refine kE Tryz.func93 ?_;intro hat B X w0;refine kw kO (kc7 g1 g2 q1 q2 k1 k3 k4) (kc1 h1) ?_
     repeat' first|exact True.intro|refine Bn.mk ?_ ?_|intro hc
     all_goals first|exact Zah rfl|(exfalso;omega)
    ·rw[if_neg hw];have w1:¬e.wt<1:=by omega
     have w2:¬1000<e.wt:=by omega
     have w3:¬e.ln<1:=by omega
     have w4:¬64<e.ln:=by omega
     refine kE Tryz.func93 ?_;intro hat B X w0
     repeat' first|refine ZbD rfl ?_|refine Za1 ?_|refine wR ?_|(refine rc (h1) rfl ?_ ?_;(· first|rfl|simp(disch:=omega) only[go_sem,simprocAttr,g1,g2,q1,q2,k1,k3,k4,w1,w2,w3,w4]))|(refine ZbF rfl rfl (λ hc=>?_) (λ hc=>?_)<;>try simp only[hcL]at hc)|(refine ZbC _ rfl rfl (λ hc=>?_) (λ hc=>?_)<;>(try simp only[hcL]at hc)<;>try omega)|simp(disch:=omega) only[go_sem,simprocAttr,g1,g2,q1,q2,k1,k3,k4,w1,w2,w3,w4]|apply And.intro|omega|decide+kernel
     exact Zah rfl
   ·rw[if_pos (by omega)];refine kE Tryz.func93 ?_;intro hat B X w0;refine kw1 kO (kc8 g1 g2 q1 q2 k1 k3 k4 c3) (kc1 h1) ?_;exact Zah rfl
 ·rw[Zhf,if_pos (by omega)];by_cases q1:(if e.to<e.fr then e.to else e.fr)<0
  ·refine kE Tryz.func93 ?_;intro hat B X w0;refine kw1 kO (kc1 q1) kc0 ?_;exact Zah rfl
  ·have q2:(g.ns.length:Int)<=(if e.fr<e.to then e.to else e.fr):=by split at q1<;>split<;>omega
   refine kE Tryz.func93 ?_;intro hat B X w0;refine kw1 kO (kc2 q1 q2) kc0 ?_;exact Zah rfl
theorem Zig (g:Gph)(hm:Mod g):Zaa Tryz.prog 45 [ZbS g] (.int (Zdx g)):=by
 have h1:=ZjN g.nm hm.nm;rw[Zdx];by_cases c0:64<g.ns.length\/256<g.es.length\/16<g.cs.length
 ·rw[if_pos c0];refine kE Tryz.func45 ?_;intro hat B X w0;refine kw kO kc0 kc0 ?_
  repeat' first|exact True.intro|refine Bn.mk ?_ ?_|intro hc
  all_goals first|exact Zah rfl|(exfalso;omega)
 ·rw[if_neg c0];have a1:¬(64:Int)<g.ns.length:=by omega
  have a2:¬(256:Int)<g.es.length:=by omega
  have a3:¬(16:Int)<g.cs.length:=by omega
  rcases c1:ZdH g.nm with _|_<;>rw[c1]at h1
  ·rw[if_pos rfl];refine kE Tryz.func45 ?_;intro hat B X w0;refine kw1 kO (kc3 a1 a2 a3) (kc1 h1) ?_;exact Zah rfl
  ·rw[if_neg (by decide)];refine kE Tryz.func45 ?_;intro hat B X w0;refine kw1 kO (kc3 a1 a2 a3) (kc1 h1) ?_;refine Zai (λ(k:Nat)=>k<=g.ns.length/\fe (ZfW g) k=0) (λ k=>[(1, .ptr 1 0 0 0),(32, .int g.ns.length),(33, .int k)]) (λ k=>[(1, .cells [.d (Zbd g.nm), .d (.bool g.dir), .d (.sl (g.ns.map ndD)), .d (.sl (g.es.map edD)), .d (.sl (g.cs.map clD))])]) (λ k=>g.ns.length-k) 0 ?_ ?_ ?_
   ·exact⟨uJ _,rfl⟩
   ·exact kN kc0 []
   ·rintro k ⟨hk,hinv⟩;rcases uF k g.ns.length with hlt|hge
    ·have h2:=ZvE g k hm hlt;by_cases hz:ZfW g k=0
     ·rw[hz]at h2;refine kw1 kO kc0 (kc1 h2) ?_;refine⟨k+1,?_,kN kc0 [],?_⟩
      ·exact⟨hlt,Zjv hinv hz⟩
      ·omega
     ·refine kw1 kO (kc1 hz) (kc1 h2) ?_;exact Zah (by rw[ZgD hinv hz _ hlt,if_pos hz])
    ·obtain rfl:k=g.ns.length:=by omega
     rw[if_neg (λ h=>h hinv)];refine kw1 kO kc0 kc0 ?_;refine Zai (λ(k:Nat)=>k<=g.cs.length/\fe (Zfd g) k=0) (λ k=>[(1, .ptr 1 0 0 0),(45, .int g.cs.length),(46, .int k)]) (λ k=>[(1, .cells [.d (Zbd g.nm), .d (.bool g.dir), .d (.sl (g.ns.map ndD)), .d (.sl (g.es.map edD)), .d (.sl (g.cs.map clD))])]) (λ k=>g.cs.length-k) 0 ?_ ?_ ?_
     ·exact⟨uJ _,rfl⟩
     ·exact kN kc0 []
     ·rintro k ⟨hk,hinv2⟩;rcases uF k g.cs.length with hlt|hge
      ·have h2:=Ztc g k hm hlt hinv2 (by omega);by_cases hz:Zfd g k=0
       ·rw[hz]at h2;refine kw1 kO kc0 (kc1 h2) ?_;refine⟨k+1,?_,kN kc0 [],?_⟩
        ·exact⟨hlt,Zjv hinv2 hz⟩
        ·omega
       ·refine kw1 kO (kc1 hz) (kc1 h2) ?_;exact Zah (by rw[ZgD hinv2 hz _ hlt,if_pos hz])
      ·obtain rfl:k=g.cs.length:=by omega
       rw[if_neg (λ h=>h hinv2)];refine kw1 kO kc0 kc0 ?_;refine Zai (λ(k:Nat)=>k<=g.es.length/\fe (ZgC g) k=0) (λ k=>[(1, .ptr 1 0 0 0),(57, .d (.sl (g.es.map edD))),(58, .int g.es.length),(59, .int k)]) (λ k=>[(1, .cells [.d (Zbd g.nm), .d (.bool g.dir), .d (.sl (g.ns.map ndD)), .d (.sl (g.es.map edD)), .d (.sl (g.cs.map clD))])]) (λ k=>g.es.length-k) 0 ?_ ?_ ?_
       ·exact⟨uJ _,rfl⟩
       ·exact kN kc0 []
       ·rintro k ⟨hk,hinv3⟩;rcases uF k g.es.length with hlt|hge
        ·obtain⟨x,hx⟩:=Zad hlt;have h2:=Ztv g x;have ee:ZgC g k=Zhf g x:=by rw[ZgC,hx]
         rw[<-ee]at h2;by_cases hz:ZgC g k=0
         ·rw[hz]at h2;refine kw1 kO (kc1 hx) (kc1 h2) ?_;refine⟨k+1,?_,kN kc0 [],?_⟩
          ·exact⟨hlt,Zjv hinv3 hz⟩
          ·omega
         ·refine kw1 kO (kc2 hx hz) (kc1 h2) ?_;exact Zah (by rw[ZgD hinv3 hz _ hlt])
        ·refine kw1 kO kc0 kc0 ?_;exact Zah (by rw[show g.es.length=k by omega,hinv3])
end Go.Proofs.YtjjbhjnpeenbkaaGreatDoor.Gr
namespace Go.Proofs.YtjjbhjnpeenbkaaGreatDoor
open Go Go.PS Go.Proofs
open Go.Bd (sm Zan Zby)
set_option maxRecDepth 100000
attribute [local irreducible] Zab wpG Zaa Zaf
abbrev Zaw (v:Nat):D:= .int (v:Int)
abbrev Zcj (l:List Nat):D:= .sl (l.map Zaw)
theorem Zvp (l:List Nat):Zcj l=Zac (l.map λ v:Nat=>(v:Int)):=by rw[Zcj,Zac,gN];rfl
theorem Zpt (l:List Nat):∀d,d∈l.map Zaw->d.cells.length=1:=Zjm Zaw 1 (λ _=>rfl) l
theorem ZgO (v:Nat):∀d,d∈[Zaw v]->d.cells.length=1:=λ d hd=>by rw[uR.1 hd];rfl
theorem Zvb {l:List Nat}{v:Nat}:(v:Int)∈l.map (λ v:Nat=>(v:Int))↔v∈l:=by
 simp[uN,Int.ofNat_inj]
theorem Zwl (l:List Int)(v:Int):decide (0<=placeF l v)=decide (v∈l):=by
 rw[ZpW,gK,gO];simp
theorem Ztj (l:List Int)(v:Int):Zaa Tryz.prog 224 [Zac l, .int v] (.bool (decide (v∈l))):=by
 have h:=ZjA l v;rw[<-Zwl];refine kE Tryz.func224 ?_;intro hat B X w0;refine kw1 kO kc0 (kc1 h) ?_;exact Zaj rfl
theorem Zhe (l:List Nat)(v:Nat):Zaa Tryz.prog 224 [Zcj l, .int v] (.bool (decide (v∈l))):=by
 have h:=Ztj (l.map λ v:Nat=>(v:Int)) v;rw[<-Zvp,decide_eq_decide.2 Zvb]at h;exact h
def ZcL (x:Int):Bool:=decide (x<0)||decide (1000000<x)
def Zgx (n:Nat)(p:List Int):Bool:=decide (p.length≠n)||p.any ZcL
def okM (m:List (List Int)):Bool:=decide (m.length<=8)&& !m.any (Zgx m.length)
theorem ZlT {m:List (List Int)}(h:okM m=true):Sq m/\m.length<=8:=by
 simp only[okM,uO,uG,yK,qU]at h;obtain⟨h1,h2⟩:=h;have hr:∀p,p∈m->p.length=m.length/\∀x,x∈p->0<=x/\x<=1000000:=λ p hp=>by
  have:=h2 p hp;simp only[Zgx,qY,uG,not_or,Bool.not_eq_true,qU]at this;refine⟨by omega,λ x hx=>?_⟩;have:=this.2 x hx;simp only[ZcL,qY,Bool.or_eq_false_iff,uG,qJ,not_or]at this;omega
 exact⟨⟨by omega,λ p hp=>(hr p hp).1,λ p hp=>(hr p hp).2⟩,h1⟩
theorem ZyP {m:List (List Int)}(h:Sq m)(h8:m.length<=8):okM m=true:=by
 simp only[okM,uO,uG,yK,qU];refine⟨h8,λ p hp=>?_⟩;simp only[Zgx,qY,uG,not_or,Bool.not_eq_true,qU];refine⟨λ hne=>hne (h.row p hp),λ x hx=>?_⟩;have:=h.val p hp x hx;simp only[ZcL,qY,Bool.or_eq_false_iff,uG,qJ,not_or];omega
theorem Sq.small {m:List (List Int)}(h:Sq m):Zby (Zag m) m.length:=λ u v hu hv=>by
 obtain⟨p,_,_,_,g1,g2⟩:=h.get hu hv;exact⟨g1,g2⟩
theorem Zsq (x:Int):Zaa Tryz.prog 223 [.int x] (.bool (ZcL x)):=by
 refine kE Tryz.func223 ?_;intro hat B X w0;refine kw kO kc0 kc0 ?_
 repeat' first|exact True.intro|refine Bn.mk ?_ ?_|intro hc
 all_goals
  refine Zaj ?_;simp only[ZcL, *,Cd,Bu,Bool.true_or,Bool.or_true,Bool.false_or,Bool.or_false]
theorem Znq (m:List (List Int)):Zaa Tryz.prog 178 [Zae m] (.bool (okM m)):=by
 refine kE Tryz.func178 ?_;intro hat B X w0;have hl:=Zbb 0 hat rfl;rw[uE]at hl;by_cases c8:8<m.length
 ·refine kw1 kO kc0 kc0 ?_;refine Zaj ?_;rw[okM,yC (by omega)];rfl
 ·refine kw1 kO kc0 kc0 ?_;refine Zai (λ(k:Nat)=>k<=m.length/\∀(j:Nat) y,j<k->m[j]? =some y->Zgx m.length y=false) (λ k=>[(0, .d (Zae m)),(8, .d (Zae m)),(9, .int m.length),(10, .int k)]) (λ k=>[]) (λ k=>m.length-k) 0 ?_ ?_ ?_
  ·exact⟨uJ _,λ j y hj=>by omega⟩
  ·exact kN kc0 []
  ·rintro k ⟨hk,hinv⟩;rcases uF k m.length with hlt|hge
   ·obtain⟨p,hp⟩:=Zad hlt;have hcf:=Zjr p 223 ZcL Zsq;by_cases c:p.length=m.length
    ·have cI:(p.length:Int)=m.length:=by omega
     rcases hb:p.any ZcL with _|_<;>rw[hb]at hcf
     ·refine kw1 kO (kc2 hp cI) (kc1 hcf) ?_;refine⟨k+1,?_,kN kc0 [],?_⟩
      ·exact⟨by omega,ZbI hinv hp (by rw[Zgx,hb,yC (by omega)];rfl)⟩
      ·omega
     ·refine kw1 kO (kc2 hp cI) (kc1 hcf) ?_;refine Zaj ?_;rw[okM,ZcZ hp (by rw[Zgx,hb,Bool.or_true])];simp
    ·have cI:¬(p.length:Int)=m.length:=by omega
     refine kw1 kO (kc2 hp cI) (kc1 hcf) ?_;refine Zaj ?_;rw[okM,ZcZ hp (by rw[Zgx,yM c,Bool.true_or])];simp
   ·refine kw1 kO kc0 kc0 ?_;refine Zaj ?_;rw[okM,ZdB λ j y hj=>hinv j y (by omega),yM (by omega)];rfl
end Go.Proofs.YtjjbhjnpeenbkaaGreatDoor
namespace Go.Proofs.YtjjbhjnpeenbkaaGreatDoor
open Go Go.PS Go.Proofs
open Go.Bd (sm Zan Zby low Part Zbf Za5)
set_option maxRecDepth 100000
attribute [local irreducible] Zab wpG Zaa Zaf
def lwF (m:List (List Int))(k:Nat):Int:=sm (λ u=>sm (λ v=>min (Zag m u v) (Zag m v u)) u) k
theorem Zpg (m:List (List Int)):low (Zag m) m.length []=lwF m m.length:=by
 rw[low,lwF];refine Go.Bd.sm_congr _ λ u _=>Go.Bd.sm_congr _ λ v _=>?_
 rw[if_pos ⟨kI,kI⟩,Int.min_comm]
theorem Zil (a b:Int):(if b<a then b else a)=min a b:=by omega
theorem Zpf {m:List (List Int)}(hs:Sq m)(h8:m.length<=8){u:Nat}(hu:u<m.length)(k:Nat)(hk:k<=u):0<=sm (λ v=>min (Zag m u v) (Zag m v u)) k/\sm (λ v=>min (Zag m u v) (Zag m v u)) k<=1000000*k:=
 Go.Bd.sm_bounds k λ v hv=>by
  have h1:=hs.small u v hu (by omega);have h2:=hs.small v u (by omega) hu;omega
theorem Zpe {m:List (List Int)}(hs:Sq m)(h8:m.length<=8)(k:Nat)(hk:k<=m.length):0<=lwF m k/\lwF m k<=8000000*k:=
 Go.Bd.sm_bounds k λ u hu=>by
  have:=Zpf hs h8 (u:=u) (by omega) u (uH _);omega
theorem ZrA (m:List (List Int))(h:okM m=true):Zaa Tryz.prog 180 [Zae m] (.int (low (Zag m) m.length [])):=by
 have hv:=Znq m;rw[h]at hv;obtain⟨hs,h8⟩:=ZlT h;rw[Zpg];refine kE Tryz.func180 ?_;intro hat B X w0;refine kw1 kO kc0 (kc1 hv) ?_;refine Zai (λ(u:Nat)=>u<=m.length) (λ u=>[(0, .d (Zae m)),(3, .int (lwF m u)),(10, .int m.length),(11, .int u)]) (λ u=>[]) (λ u=>m.length-u) 0 ?_ ?_ ?_
 ·exact uJ _
 ·exact eL [] _ _ (by refine⟨?_,?_⟩<;>(repeat' first|exact fmn|refine fmc ⟨(by first|rfl|(simp(disch:=omega) only[go_sem,simprocAttr,inL,lwF,sm];first|done|omega|(congr 1;done))),?_⟩);done)
 ·intro u hu;have hb:=Zpe hs h8 u hu;rcases uF u m.length with hlt|hge
  ·have e1:lwF m (u+1)=lwF m u+sm (λ v=>min (Zag m u v) (Zag m v u)) u:=rfl;refine kw1 kO kc0 kc0 ?_;refine Zai (λ(v:Nat)=>v<=u) (λ v=>[(0, .d (Zae m)),(3, .int (lwF m u+sm (λ v=>min (Zag m u v) (Zag m v u)) v)),(4, .int u),(10, .int m.length),(11, .int u),(14, .int u),(15, .int v)]) (λ v=>[]) (λ v=>u-v) 0 ?_ ?_ ?_
   ·exact uJ _
   ·exact eL [] _ _ (by refine⟨?_,?_⟩<;>(repeat' first|exact fmn|refine fmc ⟨(by first|rfl|(simp(disch:=omega) only[go_sem,simprocAttr,inL,sm,jU];first|done|omega|(congr 1;done))),?_⟩);done)
   ·intro v hv;have hb2:=Zpf hs h8 hlt v hv;rcases uF v u with hlv|hgv
    ·obtain⟨p,hp,hpl,hpv,h1,h2⟩:=hs.get hlt (show v<m.length by omega);obtain⟨q,hq,hql,hqv,h3,h4⟩:=hs.get (show v<m.length by omega) hlt;have e2:sm (λ v=>min (Zag m u v) (Zag m v u)) (v+1)=sm (λ v=>min (Zag m u v) (Zag m v u)) v+min (Zag m u v) (Zag m v u):=rfl;refine kw1 kO (kc5 hp hq hpv hqv @Zil) kc0 ?_;refine⟨v+1,?_,kN (kc2 e2 @zA) [],?_⟩
     ·omega
     ·omega
    ·have:v=u:=by omega
     subst this;refine kw1 kO kc0 kc0 ?_;refine⟨v+1,?_,kN (kc1 e1) [],?_⟩
     ·omega
     ·omega
  ·have:u=m.length:=by omega
   subst this;refine kw1 kO kc0 kc0 ?_;exact Zah rfl
theorem ZiG (n:Nat):Part n n []:=⟨Av,λ v hv=>absurd hv kI,by simp⟩
def Zck (m:List (List Int)):List Nat×Int:=(Zbf (Zag m) m.length m.length []).getD ([],0)
theorem ZkK (m:List (List Int)):Zbf (Zag m) m.length m.length []=some (Zck m):=by
 obtain⟨s,hs⟩:=Go.Bd.best_some (c:=Zag m) m.length [] (ZiG _);rw[Zck,hs];rfl
end Go.Proofs.YtjjbhjnpeenbkaaGreatDoor
namespace Go.Proofs.YtjjbhjnpeenbkaaGreatDoor
open Go Go.PS Go.Proofs
open Go.Bd (sm Zan Zby low Part Zbf Za5 ZbK Zbo Zcx ZdG ZcG)
set_option maxRecDepth 100000
attribute [local irreducible] Zab wpG Zaa Zaf
theorem Zs8 (l:List Nat)(hn:l.length<=1000000):Zaf Tryz.prog 214 [.ref 1000 1 0 l.length l.length] [(1000, .row 1 (l.map Zaw)),(2000, .dead)] (.ref 2000 1 0 l.length l.length) [(1000, .row 1 (l.map Zaw)),(2000, .row 1 (l.map Zaw))]:=by
 rcases gU (l=[])with rfl|hl
 ·refine kM Tryz.func214 ?_;intro B X w0;refine ZcQ ?_;refine kw1 kO kc0 kc0 ?_;refine ZiK 4 rfl ?_;intro b;cases b
  ·repeat' first|refine ZbD rfl ?_|refine Za1 ?_|refine Zf0 (Nat.beq 5) ZcC ?_|(refine ZbF rfl rfl (λ hc=>?_) (λ hc=>?_)<;>try simp only[hcL]at hc)|(refine ZbC _ rfl rfl (λ hc=>?_) (λ hc=>?_)<;>(try simp only[hcL]at hc)<;>try omega)|simp(disch:=omega) only[go_sem,simprocAttr,roomy]|apply And.intro|omega|decide+kernel
   refine⟨_,Zbg.1 (kN (L:=[(2, .ref 2000 1 0 0 0)]) (M:=[(1000, .row 1 []),(2000, .row 1 [])]) kc0 [(2000,7)]),?_⟩;exact⟨rfl,uK.2 ⟨rfl,uK.2 ⟨rfl,yA _⟩⟩⟩
  ·refine kw1 kO kc0 kc0 ?_;refine⟨_,Ent.trans (Zd5 2 7 1 rfl rfl) (Zbg.1 (eL [(2000,7)] [(2, .ref 2000 1 0 0 0)] [(1000, .row 1 []),(2000, .row 1 [])] (by constructor<;>(repeat' first|exact yA _|refine uK.2 ⟨rfl,?_⟩)))),?_⟩;exact⟨rfl,uK.2 ⟨rfl,uK.2 ⟨rfl,yA _⟩⟩⟩
 ·have he:(l.map Zaw).isEmpty=false:=by simpa using hl
  have hpos:0<l.length:=zS.2 hl;have hne:l.length≠0:=by omega
  refine kM Tryz.func214 ?_;intro B X w0;refine ZcQ ?_
  repeat' first|refine ZbD rfl ?_|refine Za1 ?_|refine Zf0 (Nat.beq 5) ZcC ?_|(refine ZbF rfl rfl (λ hc=>?_) (λ hc=>?_)<;>try simp only[hcL]at hc)|(refine ZbC _ rfl rfl (λ hc=>?_) (λ hc=>?_)<;>(try simp only[hcL]at hc)<;>try omega)|simp(disch:=omega) only[go_sem,simprocAttr,he,roomy,Zat,hne]|exact Zpt l|apply And.intro|omega|decide+kernel
  refine⟨_,Zbg.1 (kN (L:=[(2, .ref 2000 1 0 l.length l.length)]) (M:=[(1000, .row 1 (l.map Zaw)),(2000, .row 1 (l.map Zaw))]) kc0 [(2000,7)]),?_⟩;exact⟨rfl,uK.2 ⟨rfl,uK.2 ⟨rfl,yA _⟩⟩⟩
def bPV :Option (List Nat×Int)->PV
 |none=> .nilS
 |some s=> .d (Zcj s.1)
def lI :Option (List Nat×Int)->Int
 |none=>0
 |some s=>s.2
theorem Zoi (c:Nat->Nat->Int)(n:Nat):∀(f:Nat) (l:List Nat),Part n f l->∀(st:Option (List Nat×Int)) (cost rest:Int),(∀s,st=some s->s.1.length=n)->∀s,ZbK c n f l cost rest st=some s->s.1.length=n
 |0,l,hp,st,cost,rest,h,s,hs=>by
  rw[ZbK]at hs;split at hs
  ·exact h s hs
  ·cases hs;have:=hp.len;dsimp only;omega
 |f+1,l,hp,st,cost,rest,h,s,hs=>by
  rw[Go.Bd.ext_foldE]at hs;split at hs
  ·exact h s hs
  ·have key:∀k,k<=n->∀s,Zbo c n f l cost rest st k=some s->s.1.length=n:=by
    intro k
    induction k with
    |zero=>intro _ s hs;exact h s hs
    |succ k ih=>
     intro hk s hs;by_cases hm:k∈l
     ·rw[Go.Bd.foldE_in c n hm]at hs;exact ih (by omega) s hs
     ·rw[Go.Bd.foldE_out c n hm]at hs;exact Zoi c n f (l++[k]) (hp.snoc (by omega) hm) _ _ _ (ih (by omega)) s hs
   exact key n (uH _) s hs
theorem Zt8 {c:Nat->Nat->Int}{n f:Nat}{l:List Nat}(hp:Part n (f+1) l){st:Option (List Nat×Int)}{cost rest:Int}(h:∀s,st=some s->s.1.length=n):∀k,k<=n->∀s,Zbo c n f l cost rest st k=some s->s.1.length=n:=by
 intro k
 induction k with
 |zero=>intro _ s hs;exact h s hs
 |succ k ih=>
  intro hk s hs;by_cases hm:k∈l
  ·rw[Go.Bd.foldE_in c n hm]at hs;exact ih (by omega) s hs
  ·rw[Go.Bd.foldE_out c n hm]at hs;exact Zoi c n f (l++[k]) (hp.snoc (by omega) hm) _ _ _ (ih (by omega)) s hs
def ZeC (m:List (List Int))(f:Nat)(l:List Nat)(st:Option (List Nat×Int))(cost rest:Int):Prop:=
 Zaf Tryz.prog 179 [.ptr 1000 0 0 0, .int cost, .int rest] [(1000, .cells [.d (Zae m), .ref 1001 1 0 l.length l.length,bPV st, .int (lI st)]),(1001, .row 1 (l.map Zaw)),(2000, .dead)] (.tup [])
  [(1000, .cells [.d (Zae m), .ref 2000 1 0 l.length l.length,bPV (ZbK (Zag m) m.length f l cost rest st), .int (lI (ZbK (Zag m) m.length f l cost rest st))]),(1001, .gone),(2000, .row 1 (l.map Zaw))]
structure ExtIn (m:List (List Int))(l:List Nat)(st:Option (List Nat×Int))(cost rest:Int):Prop where
 len:∀s,st=some s->s.1.length=m.length
 pos:0<m.length\/st=none
 c0:0<=cost
 c1:cost<=8000000*l.length
 r0:-8000000*l.length<=rest
 r1:rest<=64000000
theorem Zoj (m:List (List Int))(f:Nat)(l:List Nat)(st:Option (List Nat×Int))(cost rest:Int)(hi:ExtIn m l st cost rest)(hl:l.length<=8)(hsh:ZcG st (cost+rest)=true)(he:ZbK (Zag m) m.length f l cost rest st=st):ZeC m f l st cost rest:=by
 rw[ZeC,he];rcases st with _|⟨b,k⟩
 ·cases hsh
 ·have hk:k<=cost+rest:=by simpa[ZcG]using hsh
  have hbl:=hi.len _ rfl;have hpos:0<m.length:=hi.pos.resolve_right (by simp);have hne:(b.map Zaw).isEmpty=false:=by
   cases b with
   |nil=>simp at hbl;omega
   |cons x b=>rfl
  obtain⟨_,_,c0,c1,r0,r1⟩:=hi;simp only[bPV,lI];refine kM Tryz.func179 ?_;intro B X w0;refine ZcQ ?_;refine kw1 kO (kc2 hne hk) kc0 ?_;refine⟨_,Zh8 1001 2000 rfl (by decide) (by decide),?_⟩;exact⟨⟨[],rfl,trivial⟩,uK.2 ⟨by simp[mvG,upd,Zam,Ob.ren,PV.ren],uK.2 ⟨rfl,uK.2 ⟨by simp[mvG,upd,Zam,Ob.ren,PV.ren],yA _⟩⟩⟩⟩
theorem ZtH (m:List (List Int))(hs:Sq m)(h8:m.length<=8)(l:List Nat)(hp:Part m.length 0 l)(st:Option (List Nat×Int))(cost rest:Int)(hi:ExtIn m l st cost rest)(hsh:ZcG st (cost+rest)=false):ZeC m 0 l st cost rest:=by
 have hll:=hp.len;have hlI:(l.length:Int)=m.length:=by omega
 have he:ZbK (Zag m) m.length 0 l cost rest st=some (l,cost):=by rw[ZbK,if_neg (by rw[hsh];decide)]
 rw[ZeC,he];have hcl:=Zs8 l (by omega);rcases st with _|⟨b,k⟩
 ·obtain⟨_,_,c0,c1,r0,r1⟩:=hi;simp only[bPV,lI];refine kM Tryz.func179 ?_;intro B X w0;refine ZcQ ?_;refine kw1 kO (kc1 hlI) (kc1 (kmc [(1000,1001),(2000,905)] hcl)) ?_;refine⟨_,Ent.trans (Zbg.1 (eL [] [] [(1000, .cells [.d (Zae m), .ref 1001 1 0 l.length l.length, .ref 905 1 0 l.length l.length, .int cost]),(1001, .row 1 (l.map Zaw)),(905, .row 1 (l.map Zaw))] (by constructor<;>(repeat' first|exact yA _|refine uK.2 ⟨rfl,?_⟩)))) (Ent.trans (Zc2 905 1 (l.map Zaw) rfl (ZcP _ rfl) (by decide)) (Zh8 1001 2000 rfl (by decide) (by decide))),?_⟩;exact⟨⟨[],rfl,trivial⟩,uK.2 ⟨by simp[mvG,upd,Zam,Ob.ren,PV.ren,Zfi,Ob.frz,PV.frzL,PV.frz,Zat,hlI],uK.2 ⟨rfl,uK.2 ⟨by simp[mvG,upd,Zam,Ob.ren,PV.ren,Zfi,Ob.frz],yA _⟩⟩⟩⟩
 ·have hk:¬k<=cost+rest:=by simpa[ZcG]using hsh
  have hbl:=hi.len _ rfl;have hpos:0<m.length:=hi.pos.resolve_right (by simp);have hne:(b.map Zaw).isEmpty=false:=by
   cases b with
   |nil=>simp at hbl;omega
   |cons x b=>rfl
  obtain⟨_,_,c0,c1,r0,r1⟩:=hi;simp only[bPV,lI];refine kM Tryz.func179 ?_;intro B X w0;refine ZcQ ?_;refine kw1 kO (kc3 hne hk hlI) (kc1 (kmc [(1000,1001),(2000,905)] hcl)) ?_;refine⟨_,Ent.trans (Zbg.1 (eL [] [] [(1000, .cells [.d (Zae m), .ref 1001 1 0 l.length l.length, .ref 905 1 0 l.length l.length, .int cost]),(1001, .row 1 (l.map Zaw)),(905, .row 1 (l.map Zaw))] (by constructor<;>(repeat' first|exact yA _|refine uK.2 ⟨rfl,?_⟩)))) (Ent.trans (Zc2 905 1 (l.map Zaw) rfl (ZcP _ rfl) (by decide)) (Zh8 1001 2000 rfl (by decide) (by decide))),?_⟩;exact⟨⟨[],rfl,trivial⟩,uK.2 ⟨by simp[mvG,upd,Zam,Ob.ren,PV.ren,Zfi,Ob.frz,PV.frzL,PV.frz,Zat,hlI],uK.2 ⟨rfl,uK.2 ⟨by simp[mvG,upd,Zam,Ob.ren,PV.ren,Zfi,Ob.frz],yA _⟩⟩⟩⟩
end Go.Proofs.YtjjbhjnpeenbkaaGreatDoor
