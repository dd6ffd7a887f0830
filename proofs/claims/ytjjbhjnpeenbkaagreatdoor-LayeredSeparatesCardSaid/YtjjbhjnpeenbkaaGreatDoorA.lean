/- Contracts of small functions on digraphs. -/
import Derived.Test.YtjjbhjnpeenbkaaGreatDoorTypes
import Derived.Shelf.Sort.Plain
import Derived.Shelf.Slices.In.SortNone
import Derived.Sort.OwnSortedInts
import Derived.Ground.NamesProg
import Derived.RangeFuncBox
import Derived.RangeFuncLeaves
import Derived.Shelf.Abstract
import Derived.WalkKit
import Derived.OwnWalkIn
import Derived.TacticsInMore
import Derived.LoopNIn
import Derived.LoopIn
import Derived.Maps.AppendAt
set_option linter.unusedSimpArgs false
set_option linter.unusedVariables false
set_option maxHeartbeats 16000000
namespace Go.Proofs.YtjjbhjnpeenbkaaGreatDoor
open Go Go.PS Go.Proofs
set_option maxRecDepth 100000
attribute [local irreducible] Zad wpG Zaa
abbrev Arc :=Int×Int
abbrev Za0 (a:Arc):D:= .ag [.int a.1, .int a.2]
theorem Zp5 (p q:Arc):(decide (p.1=q.1)&&decide (p.2=q.2))=decide (p=q):=by
 rw[qV];simp[Prod.ext_iff]
abbrev Zaj (l:List Arc):D:= .sl (l.map Za0)
abbrev Zab (l:List Int):D:= .sl (l.map D.int)
abbrev Gr :=Int×List Arc
abbrev gD (g:Gr):D:= .ag [.int g.1,Zaj g.2]
def ZeY (n:Int)(a:Arc):Bool:=decide (0<=a.1/\a.1<n/\0<=a.2/\a.2<n)
def gOk (g:Gr):Bool:=decide (0<=g.1/\g.1<=64/\g.2.length<=256)&& !g.2.any (λ a=> !ZeY g.1 a)
theorem ZjU {g:Gr}(h:gOk g=true):0<=g.1/\g.1<=64/\g.2.length<=256/\∀(k:Nat) a,g.2[k]? =some a->0<=a.1/\a.1<g.1/\0<=a.2/\a.2<g.1:=by
 simp only[gOk,uL,uF,yC,yS]at h;obtain⟨⟨h1,h2,h3⟩,h4⟩:=h;refine⟨h1,h2,h3,λ k a hk=>?_⟩;have:=h4 a (uA hk);simpa[ZeY]using this
theorem Zgi (g:Gr):Zaa Tryz.prog 97 [gD g] (.bool (gOk g)):=by
 obtain⟨n,l⟩:=g;refine kE Tryz.func97 ?_;intro hat B X w0;have hl:=Zcf 0 1 hat rfl rfl;rw[uC]at hl;refine kw kO kc0 kc0 ?_
 repeat' first|exact True.intro|refine Bn.mk ?_ ?_|intro hc
 all_goals try (refine Zah ?_;simp[gOk];omega)
 refine Zaf (λ(k:Nat)=>k<=l.length/\∀(j:Nat) y,j<k->l[j]? =some y->(!ZeY n y)=false) (λ k=>[(1, .ptr 1 0 0 0),(20, .d (Zaj l)),(21, .int l.length),(22, .int k)]) (λ k=>[(1, .cells [.int n, .d (Zaj l)])]) (λ k=>l.length-k) 0 ?_ ?_ ?_
 ·exact⟨uH _,λ j y h=>by omega⟩
 ·exact kN kc0 []
 ·rintro k ⟨hk,hinv⟩;rcases uE k l.length with hlt|hge
  ·obtain⟨p,hp⟩:=Zac hlt;refine kw kO (kc1 hp) kc0 ?_
   repeat' first|exact True.intro|refine Bn.mk ?_ ?_|intro hc
   all_goals try
    refine Zah ?_;rw[gOk,ZcE hp (by simp[ZeY];omega)];simp
   ·refine⟨k+1,?_,eL [] _ _ (by refine⟨?_,?_⟩<;>(repeat' first|exact fmn|refine fmc ⟨(by first|rfl|(simp(disch:=omega) only[go_sem,simprocAttr,inL];first|done|omega|(congr 1;done))),?_⟩);done),?_⟩
    ·exact⟨by omega,Zbr hinv hp (by simp[ZeY];omega)⟩
    ·omega
  ·refine kw1 kO kc0 kc0 ?_;refine Zah ?_;rw[gOk,Zc2 (λ j y hj=>hinv j y (by omega))];simp;omega
theorem Zkv (g:Gr):Zaa Tryz.prog 112 [gD g] (.bool (gOk g)):=by
 obtain⟨n,l⟩:=g;refine kE Tryz.func112 ?_;intro hat B X w0;have hl:=Zcf 0 1 hat rfl rfl;rw[uC]at hl;refine kw kO kc0 kc0 ?_
 repeat' first|exact True.intro|refine Bn.mk ?_ ?_|intro hc
 all_goals try (refine Zah ?_;simp[gOk];omega)
 refine Zaf (λ(k:Nat)=>k<=l.length/\∀(j:Nat) y,j<k->l[j]? =some y->(!ZeY n y)=false) (λ k=>[(1, .ptr 1 0 0 0),(3, .int k)]) (λ k=>[(1, .cells [.int n, .d (Zaj l)])]) (λ k=>l.length-k) 0 ?_ ?_ ?_
 ·exact⟨uH _,λ j y h=>by omega⟩
 ·exact kN kc0 []
 ·rintro k ⟨hk,hinv⟩;rcases uE k l.length with hlt|hge
  ·obtain⟨p,hp⟩:=Zac hlt;refine kw kO (kc1 hp) kc0 ?_
   repeat' first|exact True.intro|refine Bn.mk ?_ ?_|intro hc
   all_goals try
    refine Zah ?_;rw[gOk,ZcE hp (by simp[ZeY];omega)];simp
   ·refine⟨k+1,?_,eL [] _ _ (by refine⟨?_,?_⟩<;>(repeat' first|exact fmn|refine fmc ⟨(by first|rfl|(simp(disch:=omega) only[go_sem,simprocAttr,inL];first|done|omega|(congr 1;done))),?_⟩);done),?_⟩
    ·exact⟨by omega,Zbr hinv hp (by simp[ZeY];omega)⟩
    ·omega
  ·refine kw1 kO kc0 kc0 ?_;refine Zah ?_;rw[gOk,Zc2 (λ j y hj=>hinv j y (by omega))];simp;omega
theorem Zyk (l m:List Arc):Zaa Tryz.prog 174 [Zaj l,Zaj m] (.bool (decide (l=m))):=by
 refine kE Tryz.func174 ?_;intro hat B X w0;have hl:=ZaJ 0 hat rfl;have hm:=ZaJ 1 hat rfl;rw[uC]at hl hm;by_cases hlm:l.length=m.length
 ·refine kw1 kO kc0 kc0 ?_;refine Zaf (λ(k:Nat)=>k<=l.length/\l.take k=m.take k) (λ k=>[(0, .d (Zaj l)),(1, .d (Zaj m)),(12, .int l.length),(13, .int k)]) (λ k=>[]) (λ k=>l.length-k) 0 ?_ ?_ ?_
  ·exact⟨uH _,rfl⟩
  ·exact kN kc0 []
  ·rintro k ⟨hk,hinv⟩;rcases uE k l.length with hlt|hge
   ·obtain⟨p,hp⟩:=Zac hlt;obtain⟨q,hq⟩:=Zac (hlm▸hlt);refine kw kO (kc3 hp hq @Zp5) kc0 ?_
    repeat' first|exact True.intro|refine Bn.mk ?_ ?_|intro hc
    ·refine Zah ?_;rw[uV (ZgO hp hq hc)]
    ·refine⟨k+1,?_,eL [] _ _ (by refine⟨?_,?_⟩<;>(repeat' first|exact fmn|refine fmc ⟨(by first|rfl|(simp(disch:=omega) only[go_sem,simprocAttr,inL];first|done|omega|(congr 1;done))),?_⟩);done),?_⟩
     ·exact⟨by omega,by rw[ZaA hp,ZaA hq,hinv,hc]⟩
     ·omega
   ·refine kw1 kO kc0 kc0 ?_;refine Zah ?_;rw[uD hge,uD (by omega)]at hinv;simp[hinv]
 ·refine kw1 kO kc0 kc0 ?_;refine Zah ?_;rw[uV];rintro rfl;exact hlm rfl
def placeF (l:List Int)(n:Int):Int:=ZcU (l.findIdx? (λ x=>decide (x=n)))
theorem ZlA (l:List Int)(n:Int):Zaa Tryz.prog 170 [Zab l, .int n] (.int (placeF l n)):=by
 refine kE Tryz.func170 ?_;intro hat B X w0;have hl:=ZaJ 0 hat rfl;rw[uC]at hl;refine kw1 kO kc0 kc0 ?_;refine Zaf (λ(k:Nat)=>k<=l.length/\∀(j:Nat) y,j<k->l[j]? =some y->(decide (y=n))=false) (λ k=>[(0, .d (Zab l)),(1, .int n),(7, .int l.length),(8, .int k)]) (λ k=>[]) (λ k=>l.length-k) 0 ?_ ?_ ?_
 ·exact⟨uH _,λ j y h=>by omega⟩
 ·exact kN kc0 []
 ·rintro k ⟨hk,hinv⟩;rcases uE k l.length with hlt|hge
  ·obtain⟨p,hp⟩:=Zac hlt;refine kw kO (kc1 hp) kc0 ?_
   repeat' first|exact True.intro|refine Bn.mk ?_ ?_|intro hc
   ·refine Zai ?_;rw[placeF,Zex hp (by simpa using hc.symm) hinv];rfl
   ·refine⟨k+1,?_,eL [] _ _ (by refine⟨?_,?_⟩<;>(repeat' first|exact fmn|refine fmc ⟨(by first|rfl|(simp(disch:=omega) only[go_sem,simprocAttr,inL];first|done|omega|(congr 1;done))),?_⟩);done),?_⟩
    ·exact⟨by omega,Zbr hinv hp (by simpa using λ h=>hc h.symm)⟩
    ·omega
  ·refine kw1 kO kc0 kc0 ?_;refine Zai ?_;rw[placeF,Ze3 (λ j y hy=>hinv j y (by have:=(uB.1 hy).1;omega) hy)];rfl
theorem Zrb (l m:List Int):Zaa Tryz.prog 173 [Zab l,Zab m] (.bool (decide (l=m))):=by
 refine kE Tryz.func173 ?_;intro hat B X w0;have hl:=ZaJ 0 hat rfl;have hm:=ZaJ 1 hat rfl;rw[uC]at hl hm;by_cases hlm:l.length=m.length
 ·refine kw1 kO kc0 kc0 ?_;refine Zaf (λ(k:Nat)=>k<=l.length/\l.take k=m.take k) (λ k=>[(0, .d (Zab l)),(1, .d (Zab m)),(12, .int l.length),(13, .int k)]) (λ k=>[]) (λ k=>l.length-k) 0 ?_ ?_ ?_
  ·exact⟨uH _,rfl⟩
  ·exact kN kc0 []
  ·rintro k ⟨hk,hinv⟩;rcases uE k l.length with hlt|hge
   ·obtain⟨p,hp⟩:=Zac hlt;obtain⟨q,hq⟩:=Zac (hlm▸hlt);refine kw kO (kc2 hp hq) kc0 ?_
    repeat' first|exact True.intro|refine Bn.mk ?_ ?_|intro hc
    ·refine Zah ?_;rw[uV (ZgO hp hq hc)]
    ·refine⟨k+1,?_,eL [] _ _ (by refine⟨?_,?_⟩<;>(repeat' first|exact fmn|refine fmc ⟨(by first|rfl|(simp(disch:=omega) only[go_sem,simprocAttr,inL];first|done|omega|(congr 1;done))),?_⟩);done),?_⟩
     ·exact⟨by omega,by rw[ZaA hp,ZaA hq,hinv,hc]⟩
     ·omega
   ·refine kw1 kO kc0 kc0 ?_;refine Zah ?_;rw[uD hge,uD (by omega)]at hinv;simp[hinv]
 ·refine kw1 kO kc0 kc0 ?_;refine Zah ?_;rw[uV];rintro rfl;exact hlm rfl
abbrev Zae (l:List (List Int)):D:= .sl (l.map Zab)
theorem Zyj (l m:List (List Int)):Zaa Tryz.prog 172 [Zae l,Zae m, .fn 173 []] (.bool (decide (l=m))):=by
 refine kE Tryz.func172 ?_;intro hat B X w0;have hl:=ZaJ 0 hat rfl;have hm:=ZaJ 1 hat rfl;rw[uC]at hl hm;by_cases hlm:l.length=m.length
 ·refine kw1 kO kc0 kc0 ?_;refine Zaf (λ(k:Nat)=>k<=l.length/\l.take k=m.take k) (λ k=>[(0, .d (Zae l)),(1, .d (Zae m)),(2, .d (.fn 173 [])),(15, .d (Zae l)),(16, .int l.length),(17, .int k)]) (λ k=>[]) (λ k=>l.length-k) 0 ?_ ?_ ?_
  ·exact⟨uH _,rfl⟩
  ·exact kN kc0 []
  ·rintro k ⟨hk,hinv⟩;rcases uE k l.length with hlt|hge
   ·obtain⟨p,hp⟩:=Zac hlt;obtain⟨q,hq⟩:=Zac (hlm▸hlt);have he:=Zrb p q;by_cases hpq:p=q
    ·rw[yD hpq]at he;refine kw1 kO (kc2 hp hq) (kc1 he) ?_;refine⟨k+1,?_,kN kc0 [],?_⟩
     ·exact⟨by omega,by rw[ZaA hp,ZaA hq,hinv,hpq]⟩
     ·omega
    ·rw[uV hpq]at he;refine kw1 kO (kc2 hp hq) (kc1 he) ?_;refine Zah ?_;rw[uV (ZgO hp hq hpq)]
   ·refine kw1 kO kc0 kc0 ?_;refine Zah ?_;rw[uD hge,uD (by omega)]at hinv;simp[hinv]
 ·refine kw1 kO kc0 kc0 ?_;refine Zah ?_;rw[uV];rintro rfl;exact hlm rfl
theorem Zzf (l:List Int)(g:Nat)(p:Int->Bool)(hp:∀x,Zaa Tryz.prog g [.int x] (.bool (p x))):Zaa Tryz.prog 163 [Zab l, .fn g []] (.int (ZcU (l.findIdx? p))):=by
 refine kE Tryz.func163 ?_;intro hat B X w0;have hl:=ZaJ 0 hat rfl;rw[uC]at hl;refine kw1 kO kc0 kc0 ?_;refine Zaf (λ(k:Nat)=>k<=l.length/\∀(j:Nat) y,j<k->l[j]? =some y->p y=false) (λ k=>[(0, .d (Zab l)),(1, .d (.fn g [])),(7, .int l.length),(8, .int k)]) (λ k=>[]) (λ k=>l.length-k) 0 ?_ ?_ ?_
 ·exact⟨uH _,λ j y h=>by omega⟩
 ·exact kN kc0 []
 ·rintro k ⟨hk,hinv⟩;rcases uE k l.length with hlt|hge
  ·obtain⟨x,hx⟩:=Zac hlt;have hpx:=hp x;rcases hb:p x with _|_<;>rw[hb]at hpx
   ·refine kw1 kO (kc1 hx) (kc1 hpx) ?_;refine⟨k+1,?_,kN kc0 [],?_⟩
    ·exact⟨by omega,Zbr hinv hx hb⟩
    ·omega
   ·refine kw1 kO (kc1 hx) (kc1 hpx) ?_;refine Zai ?_;rw[Zex hx hb hinv];rfl
  ·refine kw1 kO kc0 kc0 ?_;refine Zai ?_;rw[Ze3 (λ j y hy=>hinv j y (by have:=(uB.1 hy).1;omega) hy)];rfl
theorem Zze (l:List Arc)(g:Nat)(p:Arc->Bool)(hp:∀x,Zaa Tryz.prog g [Za0 x] (.bool (p x))):Zaa Tryz.prog 164 [Zaj l, .fn g []] (.int (ZcU (l.findIdx? p))):=by
 refine kE Tryz.func164 ?_;intro hat B X w0;have hl:=ZaJ 0 hat rfl;rw[uC]at hl;refine kw1 kO kc0 kc0 ?_;refine Zaf (λ(k:Nat)=>k<=l.length/\∀(j:Nat) y,j<k->l[j]? =some y->p y=false) (λ k=>[(0, .d (Zaj l)),(1, .d (.fn g [])),(7, .int l.length),(8, .int k)]) (λ k=>[]) (λ k=>l.length-k) 0 ?_ ?_ ?_
 ·exact⟨uH _,λ j y h=>by omega⟩
 ·exact kN kc0 []
 ·rintro k ⟨hk,hinv⟩;rcases uE k l.length with hlt|hge
  ·obtain⟨x,hx⟩:=Zac hlt;have hpx:=hp x;rcases hb:p x with _|_<;>rw[hb]at hpx
   ·refine kw1 kO (kc1 hx) (kc1 hpx) ?_;refine⟨k+1,?_,kN kc0 [],?_⟩
    ·exact⟨by omega,Zbr hinv hx hb⟩
    ·omega
   ·refine kw1 kO (kc1 hx) (kc1 hpx) ?_;refine Zai ?_;rw[Zex hx hb hinv];rfl
  ·refine kw1 kO kc0 kc0 ?_;refine Zai ?_;rw[Ze3 (λ j y hy=>hinv j y (by have:=(uB.1 hy).1;omega) hy)];rfl
theorem ZjK (l:List Int)(g:Nat)(p:Int->Bool)(hp:∀x,Zaa Tryz.prog g [.int x] (.bool (p x))):Zaa Tryz.prog 98 [Zab l, .fn g []] (.bool (l.any p)):=by
 have h:=Zzf l g p hp;refine kE Tryz.func98 ?_;intro hat B X w0;refine kw1 kO kc0 (kc1 h) ?_;exact Zah (Zg3 p l)
theorem ZqM (l:List Arc)(g:Nat)(p:Arc->Bool)(hp:∀x,Zaa Tryz.prog g [Za0 x] (.bool (p x))):Zaa Tryz.prog 100 [Zaj l, .fn g []] (.bool (l.any p)):=by
 have h:=Zze l g p hp;refine kE Tryz.func100 ?_;intro hat B X w0;refine kw1 kO kc0 (kc1 h) ?_;exact Zah (Zg3 p l)
def Zdo (k:Int):Bool:=decide (k<0\/255<k)
theorem ZoJ (k:Int):Zaa Tryz.prog 99 [.int k] (.bool (Zdo k)):=by
 refine kE Tryz.func99 ?_;intro hat B X w0;refine kw kO kc0 kc0 ?_
 repeat' first|exact True.intro|refine Bn.mk ?_ ?_|intro hc
 all_goals
  refine Zah ?_;simp[Zdo];omega
def ZdU (a:Arc):Bool:=decide (a.1=a.2)
theorem Zsx (a:Arc):Zaa Tryz.prog 101 [Za0 a] (.bool (ZdU a)):=by
 refine kE Tryz.func101 ?_;intro hat B X w0;refine kw1 kO kc0 kc0 ?_
 all_goals exact Zah rfl
end Go.Proofs.YtjjbhjnpeenbkaaGreatDoor
namespace Go.Proofs
open Go.Shelf
def Tryz.laysSort_ren :Go.Shelf.Ren:=⟨λ|189=>219|125=>250|257=>249|128=>274|129=>275|294=>265|295=>266|296=>267|297=>268|298=>269|299=>270|216=>271|300=>272|301=>273|328=>283|329=>284|330=>285|331=>286|332=>287|215=>282|343=>291|n=>n,λ|28=>38|3=>3|46=>168|0=>0|51=>274|53=>276|4=>4|183=>282|182=>281|131=>285|5=>5|9=>9|218=>292|222=>296|228=>298|229=>160|n=>n,λ|n=>n⟩
theorem Tryz.laysSort :Go.Proofs.Lays.n189 Tryz.prog Tryz.laysSort_ren:={
 mixed:=by kernel_rfl
 f125:=Tryz.func250.trans (qU some (by kernel_rfl))
 f128:=Tryz.func274.trans (qU some (by kernel_rfl))
 f129:=Tryz.func275.trans (qU some (by kernel_rfl))
 f189:=Tryz.func219.trans (qU some (by kernel_rfl))
 f215:=Tryz.func282.trans (qU some (by kernel_rfl))
 f216:=Tryz.func271.trans (qU some (by kernel_rfl))
 f257:=Tryz.func249.trans (qU some (by kernel_rfl))
 f294:=Tryz.func265.trans (qU some (by kernel_rfl))
 f295:=Tryz.func266.trans (qU some (by kernel_rfl))
 f296:=Tryz.func267.trans (qU some (by kernel_rfl))
 f297:=Tryz.func268.trans (qU some (by kernel_rfl))
 f298:=Tryz.func269.trans (qU some (by kernel_rfl))
 f299:=Tryz.func270.trans (qU some (by kernel_rfl))
 f300:=Tryz.func272.trans (qU some (by kernel_rfl))
 f301:=Tryz.func273.trans (qU some (by kernel_rfl))
 f328:=Tryz.func283.trans (qU some (by kernel_rfl))
 f329:=Tryz.func284.trans (qU some (by kernel_rfl))
 f330:=Tryz.func285.trans (qU some (by kernel_rfl))
 f331:=Tryz.func286.trans (qU some (by kernel_rfl))
 f332:=Tryz.func287.trans (qU some (by kernel_rfl))
 f343:=Tryz.func291.trans (qU some (by kernel_rfl))
 t0:=Tryz.underlying0
 a0:=Tryz.isAgg0
 z0:=Tryz.sizeOf0
 v0:=Tryz.zeroValue0
 t3:=Tryz.underlying3
 a3:=Tryz.isAgg3
 z3:=Tryz.sizeOf3
 v3:=Tryz.zeroValue3
 t4:=Tryz.underlying4
 a4:=Tryz.isAgg4
 z4:=Tryz.sizeOf4
 v4:=Tryz.zeroValue4
 t5:=Tryz.underlying5
 a5:=Tryz.isAgg5
 z5:=Tryz.sizeOf5
 v5:=Tryz.zeroValue5
 t9:=Tryz.underlying9
 a9:=Tryz.isAgg9
 z9:=Tryz.sizeOf9
 v9:=Tryz.zeroValue9
 t28:=Tryz.underlying38
 a28:=Tryz.isAgg38
 z28:=Tryz.sizeOf38
 v28:=Tryz.zeroValue38
 t46:=Tryz.underlying168
 a46:=Tryz.isAgg168
 z46:=Tryz.sizeOf168
 v46:=Tryz.zeroValue168
 t51:=Tryz.underlying274
 a51:=Tryz.isAgg274
 z51:=Tryz.sizeOf274
 v51:=Tryz.zeroValue274
 t53:=Tryz.underlying276
 a53:=Tryz.isAgg276
 z53:=Tryz.sizeOf276
 v53:=Tryz.zeroValue276
 t131:=Tryz.underlying285
 a131:=Tryz.isAgg285
 z131:=Tryz.sizeOf285
 v131:=Tryz.zeroValue285
 t182:=Tryz.underlying281
 a182:=Tryz.isAgg281
 z182:=Tryz.sizeOf281
 v182:=Tryz.zeroValue281
 t183:=Tryz.underlying282
 a183:=Tryz.isAgg282
 z183:=Tryz.sizeOf282
 v183:=Tryz.zeroValue282
 t218:=Tryz.underlying292
 a218:=Tryz.isAgg292
 z218:=Tryz.sizeOf292
 v218:=Tryz.zeroValue292
 t222:=Tryz.underlying296
 a222:=Tryz.isAgg296
 z222:=Tryz.sizeOf296
 v222:=Tryz.zeroValue296
 t228:=Tryz.underlying298
 a228:=Tryz.isAgg298
 z228:=Tryz.sizeOf298
 v228:=Tryz.zeroValue298
 t229:=Tryz.underlying160
 a229:=Tryz.isAgg160
 z229:=Tryz.sizeOf160
 v229:=Tryz.zeroValue160}
end Go.Proofs
namespace Go.Proofs.YtjjbhjnpeenbkaaGreatDoor
open Go Go.PS Go.Proofs Go.Sort Go.RowKit
abbrev intsL (l:List Int):List D:=l.map D.int
def ZaM (l:List Int):List Int:=l.mergeSort λ x y=>decide (x<=y)
theorem ZuP (l:List Int):(ZaM l).length=l.length:=by simp[ZaM]
end Go.Proofs.YtjjbhjnpeenbkaaGreatDoor
namespace Go.Proofs.YtjjbhjnpeenbkaaGreatDoor
open Go Go.Proofs Go.RowKit Go.Shelf
attribute [local go_sem] Oper.semAt_some
def ZdZ {α:Type}(f:Nat->α)(k:Nat):List α:=(List.range k).map f
theorem Zvt {α:Type}(f:Nat->α)(k:Nat):ZdZ f (k+1)=ZdZ f k++[f k]:=by simp[ZdZ,qN]
theorem ZFq {α:Type}(f:Nat->α)(k:Nat):(ZdZ f k).length=k:=by simp[ZdZ]
theorem ZFp (zs:List Int):ZdZ (λ j=>zs[j]?.getD 0) zs.length=zs:=by
 apply List.ext_getElem
 ·simp[ZdZ]
 ·intro i h1 h2;simp[ZdZ,h2]
theorem ZFr (zs:List Int){k:Nat}(hk:k<=zs.length):ZdZ (λ j=>zs[j]?.getD 0) k=zs.take k:=by
 apply List.ext_getElem
 ·simp[ZdZ,hk]
 ·intro i h1 h2;have:i<zs.length:=by simp[ZdZ]at h1;omega
  simp[ZdZ,this]
def ZgR (n₀:Nat)(W:World)(sv:Value)(zs:List Int):Prop:=
 (∃a cap,sv= .slice a 0 cap/\zs=[])\/∃b off cap,sv= .slice (some ⟨b,off,none⟩) zs.length cap/\b<n₀/\∀j,j<zs.length->W.cell? ⟨b,off+j,none⟩=some (.int .i64 (zs[j]?.getD 0))
theorem ZgR.below {n₀:Nat}{A B:World}(h:Below n₀ A B){sv:Value}{zs:List Int}:ZgR n₀ A sv zs->ZgR n₀ B sv zs
 | .inl e=> .inl e
 | .inr ⟨b,off,cap,e,hb,hc⟩=> .inr ⟨b,off,cap,e,hb,λ j hj=>(h.cell (p:=⟨b,off+j,none⟩) hb).trans (hc j hj)⟩
set_option maxRecDepth 100000 in
theorem ZFy (F:Fence)(n:Nat)(h7:F.fn 220)(hro:F.round=none)(hn:1<=n)(l Bs ob n₀ b off len cap:Nat)(zs:List Int)(hreach:len*8<=140737488351232)(hb:b<n₀)(J Jx:List Int->World->Prop)
  (hY:∀pre x W,J pre W->pre.length<len->YieldAt F (n-1) Tryz.prog l #[.int .i64 x] W λ e W'=>
   (e= .returned (.bool true)/\J (pre++[x]) W'/\Below n₀ W W')\/(e= .returned (.bool false)/\Jx (pre++[x]) W'))
  (W:World)(hBs:W.cell? ⟨Bs,ob,none⟩=some (.slice (some ⟨b,off,none⟩) len cap))(hc:∀j,j<len->W.cell? ⟨b,off+j,none⟩=some (.int .i64 (zs[j]?.getD 0)))(h0:J [] W):
  CallsIn F n Tryz.prog 220 #[.func (.yield l) #[] #[], .pointer (some ⟨Bs,ob,none⟩)] W λ e W'=>(∃v,e= .returned v)/\
   ((∃ys,ys=ZdZ (λ j=>zs[j]?.getD 0) len/\J ys W')\/(∃pre,(∃k,k<=len/\pre=ZdZ (λ j=>zs[j]?.getD 0) k)/\Jx pre W')):=by
 refine callsIn_of_wp Tryz.func220 rfl h7 ?_ hro;simp only[Tryz.ntmps220,kJ,yB,uY,Nat.reduceAdd,Nat.reduceSub,zY,zZ,As,zF,gU,jH]
 gi_wp2
 gi_loopw [7] (λ i wr=>∃k:Nat,k<=len/\i= .int .i64 k/\J (ZdZ (λ j=>zs[j]?.getD 0) k) wr/\Below n₀ W wr)
  (λ i _=>len-(intOf i).toNat)
 case atStart=>exact⟨0,uH _,rfl,h0,Below.refl _ _⟩
 case round=>
  obtain⟨k,hk,rfl,hJs,hnx⟩:=hrel;have hcx:k<len->wr.cell? ⟨b,off+k,none⟩=some (.int .i64 (zs[k]?.getD 0)):=λ h=>(hnx.cell (p:=⟨b,off+k,none⟩) hb).trans (hc k h)
  by_cases hlt:k<len
  ·obtain⟨fn,tmps,assign,body,hy,hR⟩:=hY _ (zs[k]?.getD 0) wr hJs (by rw[ZFq];exact hlt);have hcx':=hcx hlt
   gi_wp2
   refine hR.mono ?_;rintro e W3 (⟨rfl,hJ3,hk3⟩|⟨rfl,hJx3⟩)
   ·gi_wp2
    go_roundw
    case rel=>exact⟨k+1,by omega,by simp,by rw[Zvt];exact hJ3,hnx.trans hk3⟩
    case measure=>simp[intOf];omega
   ·gi_wp2
    refine bodyPost_ret (results_none rfl _ _ _) rfl ?_;exact⟨⟨_,rfl⟩, .inr ⟨_,⟨k+1,by omega,(Zvt _ _).symm⟩,hJx3⟩⟩
  ·obtain rfl:k=len:=by omega
   gi_wp2
   go_end0
   exact⟨⟨_,rfl⟩, .inl ⟨_,rfl,hJs⟩⟩
set_option maxRecDepth 100000 in
theorem ZFz (F:Fence)(n:Nat)(h7:F.fn 220)(hro:F.round=none)(l Bs ob cap:Nat)(a:Option Addr)(J:List Int->World->Prop)(W:World)(hBs:W.cell? ⟨Bs,ob,none⟩=some (.slice a 0 cap))(h0:J [] W):
  CallsIn F n Tryz.prog 220 #[.func (.yield l) #[] #[], .pointer (some ⟨Bs,ob,none⟩)] W λ e W'=>(∃v,e= .returned v)/\J [] W':=by
 refine callsIn_of_wp Tryz.func220 rfl h7 ?_ hro;simp only[Tryz.ntmps220,kJ,yB,uY,Nat.reduceAdd,Nat.reduceSub,zY,zZ,As,zF,gU,jH]
 gi_wp2
 gi_loopw [7] (λ i wr=>i= .int .i64 0/\J [] wr) (λ _ _=>0)
 case atStart=>exact⟨rfl,h0⟩
 case round=>
  obtain⟨rfl,hJs⟩:=hrel
  gi_wp2
  go_end0
  exact⟨⟨_,rfl⟩,hJs⟩
theorem ZFA (F:Fence)(n:Nat)(h7:F.fn 220)(hro:F.round=none)(hn:1<=n)(Bs ob n₀:Nat)(sv:Value)(zs:List Int)(hreach:zs.length*8<=140737488351232)(w:World)(hBs:Bs<w.heap.size)(hn₀:n₀<=w.heap.size)
  (hc:w.cell? ⟨Bs,ob,none⟩=some sv)(hI:ZgR n₀ w sv zs):
  SeqStopsK F n Tryz.prog 220 #[.pointer (some ⟨Bs,ob,none⟩)] (λ x:Int=>#[Value.int .i64 x]) (Below n₀) (λ ys=>ys=zs) (λ pre=>pre<+:zs) zs.length w:=λ l J Jx W hW _ _ hY h0=>by
 have hc':=(hW.cell (p:=⟨Bs,ob,none⟩) hBs).trans hc;rcases hI.below (hW.mono hn₀)with⟨a,cap,rfl,rfl⟩|⟨b,off,cap,rfl,hb,hcs⟩
 ·exact(ZFz F n h7 hro l Bs ob cap a J W hc' h0).mono λ e W' ⟨he,hj⟩=>⟨he, .inl ⟨_,rfl,hj⟩⟩
 ·refine(ZFy F n h7 hro hn l Bs ob n₀ b off zs.length cap zs hreach hb J Jx hY W hc' hcs h0).mono ?_;rintro e W' ⟨he,⟨ys,rfl,hj⟩|⟨pre,⟨k,hk,rfl⟩,hj⟩⟩
  ·exact⟨he, .inl ⟨_,ZFp zs,hj⟩⟩
  ·exact⟨he, .inr ⟨_,by rw[ZFr zs hk];exact List.take_prefix _ _,hj⟩⟩
theorem Zzj :(Tryz.prog.info? 3).map (λ i=>(i.zero,i.size,i.bytes))=some (some (.int .i64 0),1,8):=by kernel_rfl
set_option maxRecDepth 100000 in
theorem Zwp (F:Fence)(n:Nat)(h3:F.fn 248)(h5:F.fn 220)(hro:F.round=none)(hn:3<=n)(Bs ob:Nat)(sv:Value)(zs:List Int)(hlen:zs.length<=maxLen)(hbytes:zs.length*8<=140737488351232)(w:World)
  (hBs:Bs<w.heap.size)(hc:w.cell? ⟨Bs,ob,none⟩=some sv)(hI:ZgR w.heap.size w sv zs):
  CallsIn F n Tryz.prog 248 #[.slice none 0 0, .func (.func 220) #[] #[.pointer (some ⟨Bs,ob,none⟩)]] w λ e W'=>∃v,e= .returned v/\W'.ownsRow w.heap.size 3 1 v zs.length (zs.map (Value.int .i64))/\(v= .slice none 0 0↔zs=[])/\Below w.heap.size w W':=by
 have h1:1<=n:=by omega
 obtain⟨i0,hi,hz0,hz1,hz2⟩:=info_parts Zzj;refine callsIn_of_wp_marks Tryz.func248 rfl h3 ?_ hro;simp only[Tryz.ntmps248,kJ,yB,uY,Nat.reduceAdd,Nat.reduceSub,zY,zZ,As,zF,gU,jH]
 gi_wp2
 have bO:=Boxed.new w 38 (.slice none 0 0);have hB0:Below w.heap.size w (w.alloc (.cells #[.slice none 0 0] 38)):=(Below.refl _ w).alloc (uJ _) _;refine wpIn_rangeFunc_ownG hro h1 (gf:=220) (lb:=#[.pointer (some ⟨Bs,ob,none⟩)]) rfl h5 (enters_of Tryz.func220 (by kernel_rfl) rfl)
  (ZFA F (n-1) h5 hro (by omega) Bs ob w.heap.size sv zs hbytes _ (by simp;omega) (by simp) ((hB0.cell (p:=⟨Bs,ob,none⟩) hBs).trans hc) (hI.below hB0)) belowK_t (belowK_b (by simp)) (Below.refl _ _) (λ _=>rfl)
  (λ pre W=>(∃v,Boxed W w.heap.size 38 v/\W.ownsRow w.heap.size 3 1 v pre.length (pre.map (Value.int .i64))/\(v= .slice none 0 0↔pre=[]))/\Below w.heap.size w W)
  (λ _ _ _=>False)
  (OwnFrom.and (Own.from (holdsRow_own w.heap.size w.heap.size 38 3 1 (λ pre=>pre.length) (λ pre=>pre.map (Value.int .i64)) (λ pre v=>v= .slice none 0 0↔pre=[])) _) (ownFrom_below (uJ _) (by simp)))
  (λ _ _ _ _ _ hs _ _=>hs)
  ⟨⟨_,bO,World.ownsRow_nil _ _ _ _,by simp⟩,hB0⟩
  (λ x=>{tmps:=#[.slice none 0 0, .func (.func 220) #[] #[.pointer (some ⟨Bs,ob,none⟩)], .pointer (some ⟨w.heap.size,0,none⟩),undef, .slice none 0 0, .int .i64 x, .func (.func 220) #[] #[.pointer (some ⟨Bs,ob,none⟩)], .int .i64 x,undef,undef,undef,undef,undef],defers:=[]}) ?assign ?body ?done ?stop
 case assign=>
  intro l x W K hK
  gi_wp2
  exact hK
 case body=>
  rintro l pre x W ⟨⟨v,hv,hrow,hnil⟩,hB⟩ hlt;have hc:=hv.cell
  gi_wp2_with (gi_at_builtin;refine wpListIn_append_own _ rfl _ _ 38 rfl w.heap.size 3 i0 (.int .i64 0) 1 8 Tryz.underlying38 hi hz0 hz1 hz2 rfl (by decide) _ _ _ rfl (hrow.alloc _) ⟨W.heap.size,0,none⟩ 1 1 [.int .i64 x] rfl rfl (cell_one_new _ _ _) (by simp[Value.oneCell']) (by omega) (by omega) (by have:=hB.size;simp;omega) ?_;intro v' w1 hown' hgrow _;obtain⟨g',cap',rfl⟩:=ownsRow_succ hown';obtain⟨hv1,hv2,hr2,hk2,hb2⟩:=hv.appended (by decide) hrow hB.size (uJ _) hown' hgrow;have hc1:=hv1.cell;have hf1:=hv1.frozen)
  exact⟨hk2.from _,hb2,⟨_,hv2,by simpa using hr2,by simp⟩,hB.trans hb2⟩
 case done=>
  rintro D ys W hD rfl ⟨⟨v,hv,hrow,hnil⟩,hB⟩ hK;have hc:=hv.cell
  gi_wp2
  refine⟨by simp, .inl ⟨_,_,rfl,run_takeDeferred hK,?_⟩⟩;exact⟨_,results_tmp rfl _ _ _,v,rfl,ownsRow_putObj hrow _ hK rfl,hnil,hB.trans (belowK_b (w:=w) (uJ _) W D _ _ (by simp at hD;omega) hK rfl rfl)⟩
 case stop=>
  rintro D c pre W _ _ h _;exact h.elim
end Go.Proofs.YtjjbhjnpeenbkaaGreatDoor
namespace Go.Proofs.YtjjbhjnpeenbkaaGreatDoor
open Go Go.Proofs Go.RowKit Go.Shelf Go.Sort
attribute [local go_sem] Oper.semAt_some
set_option maxRecDepth 100000 in
theorem ZxI (n:Nat)(hn:4<=n)(Bs ob:Nat)(sv:Value)(zs:List Int)(hlen:zs.length<=maxLen)(hbytes:zs.length*8<=140737488351232)(w:World)
  (hBs:Bs<w.heap.size)(hc:w.cell? ⟨Bs,ob,none⟩=some sv)(hI:ZgR w.heap.size w sv zs):
  CallsIn Fence.wide n Tryz.prog 218 #[.func (.func 220) #[] #[.pointer (some ⟨Bs,ob,none⟩)]] w λ e W'=>∃v,e= .returned v/\W'.ownsRow w.heap.size 3 1 v zs.length (zs.map (Value.int .i64))/\(v= .slice none 0 0↔zs=[])/\Below w.heap.size w W':=by
 have h1:1<=n:=by omega
 have hF:Fence.wide.fn 248:=trivial;refine callsIn_of_wp Tryz.func218 rfl trivial ?_ rfl;simp only[Tryz.ntmps218,kJ,yB,uY,Nat.reduceAdd,Nat.reduceSub,zY,zZ,As,zF,gU,jH]
 gi_wp2_with (gi_at_call 248;refine(Zwp Fence.wide (n-1) trivial trivial rfl (by omega) Bs ob sv zs hlen hbytes w hBs hc hI).mono ?_;rintro e w' ⟨v,rfl,hrow,hnil,hb⟩)
 go_ret
 exact⟨v,rfl,hrow,hnil,hb⟩
set_option maxRecDepth 100000 in
theorem ZEs (n:Nat)(hn:5<=n)(Bs ob:Nat)(sv:Value)(zs:List Int)(hlen:zs.length<=maxLen)(hbytes:zs.length*8<=140737488351232)(w:World)
  (hBs:Bs<w.heap.size)(hc:w.cell? ⟨Bs,ob,none⟩=some sv)(hI:ZgR w.heap.size w sv zs):
  CallsIn Fence.wide n Tryz.prog 175 #[.func (.func 220) #[] #[.pointer (some ⟨Bs,ob,none⟩)]] w λ e W'=>∃v,e= .returned v/\W'.ownsRow w.heap.size 3 1 v zs.length ((ZaM zs).map (Value.int .i64))/\Below w.heap.size w W':=by
 have h1:1<=n:=by omega
 have hF1:Fence.wide.fn 218:=trivial;have hF2:Fence.wide.fn 219:=trivial;refine callsIn_of_wp Tryz.func175 rfl trivial ?_ rfl;simp only[Tryz.ntmps175,kJ,yB,uY,Nat.reduceAdd,Nat.reduceSub,zY,zZ,As,zF,gU,jH]
 gi_wp2_with (gi_at_call 218;refine(ZxI (n-1) (by omega) Bs ob sv zs hlen hbytes w hBs hc hI).mono ?_;rintro e W ⟨v,rfl,hrow,hnil,hb⟩)
 rcases hrow.2 with⟨rfl,hz⟩|⟨gb,cap,cur,rfl,hbase,hgb,r1,r2,r3,r4⟩
 ·have hss:zs=[]:=qI hz;subst hss
  gi_wp2_with (gi_at_call 219;refine(callsIn_wide.2 (Any.slices_Sort_int_none Tryz.laysSort none 0 W)).mono ?_;rintro e w' ⟨rfl,rfl⟩)
  go_ret
  exact⟨.slice none 0 0,rfl,by simpa[ZaM]using hrow,hb⟩
 ·have hH:Holds (Value.int .i64) W gb 0 zs.toArray:=holds_of_blockI hgb (by simpa using r4);have hgl:gb<W.heap.size:=(gB.1 hgb).1;have hsz:zs.length<4611686018427387904:=by omega
  have cS:=Any.slices_Sort_int Tryz.laysSort gb 0 cap zs W hH hgl hsz
  gi_wp2_with (gi_at_call 219;refine(callsIn_wide.2 cS).mono ?_;rintro e w' ⟨rfl,nn,os,rfl⟩)
  go_ret
  exact⟨_,rfl,ownsRow_sortedI (by simp) hbase hgb r1 r2 r3,hb.grown (grownBy_sortedI _) hb.size (λ j hj=>by cases hj;exact hbase)⟩
end Go.Proofs.YtjjbhjnpeenbkaaGreatDoor
namespace Go.Proofs.YtjjbhjnpeenbkaaGreatDoor
open Go Go.PS Go.Proofs
set_option maxRecDepth 100000
theorem Zzv {w:World}{X:Nat->Prop}{l:List Int}{v:Value}(h:D.At w X (Zab l) v):ZgR w.heap.size w v l:=by
 generalize hd:Zab l=d at h;cases h with
 |sc=>cases hd
 |ag=>cases hd
 |tup=>cases hd
 |pt=>cases hd
 |fn=>cases hd
 |slnil base cap=>
  simp only[Zab,D.sl.injEq,List.map_eq_nil_iff]at hd;exact .inl ⟨base,cap,rfl,hd⟩
 |sl L b off cap sz hl hc hsz vals hv hat=>
  simp only[Zab,D.sl.injEq]at hd;subst hd;rcases qM l.length with h0|h0
  ·have:l=[]:=jN.1 h0;subst this;exact .inl ⟨_,cap,rfl,rfl⟩
  ·have hs1:sz=1:=by
    have:=hsz (D.int l[0]) (uP.2 ⟨l[0],jO h0,rfl⟩);simpa[D.cells]using this.symm
   subst hs1;have key:∀j,j<l.length->w.cell? ⟨b,off+j,none⟩=some (.int .i64 (l[j]?.getD 0)):=by
    intro j hj;have hi:(l.map D.int)[j]? =some (D.int l[j]):=by rw[uI,uR hj];rfl
    have h1:=hv j _ 0 (D.int l[j]) hi rfl;have h2:=hat j _ 0 (D.int l[j]) hi rfl;rw[jS,gX]at h1;generalize vals j 0=x at h1 h2;cases h2;rw[h1.1,uR hj];rfl
   refine .inr ⟨b,off,cap,by rw[uC],?_,key⟩;have:=key 0 h0;rw[gX]at this;exact ZjG this
theorem ZmB (l:List Int)(hl:l.length*8<=140737488351232):Zaa Tryz.prog 175 [.fn 220 [.pt [Zab l]]] (Zab (ZaM l)):=by
 refine⟨⟨_,Tryz.func175,rfl,by decide+kernel⟩,λ w X vs hX hat _=>?_⟩;obtain⟨hsz,hat⟩:=hat;obtain⟨v,rfl⟩:∃v,vs=#[v]:=by
  have:vs.size=1:=hsz;refine⟨vs[0],Array.ext (by simp[this]) λ i h1 h2=>?_⟩;have:i=0:=by simp at h2;omega
  subst this;rfl
 have hv:=hat 0 _ v rfl rfl;cases hv with
 |fn _ _ arr hasz harr=>
  obtain⟨x,rfl⟩:∃x,arr=#[x]:=by
   have:arr.size=1:=hasz;refine⟨arr[0],Array.ext (by simp[this]) λ i h1 h2=>?_⟩;have:i=0:=by simp at h2;omega
   subst this;rfl
  have hx:=harr 0 _ x rfl rfl;cases hx with
  |pt _ b off vals hpv hpat=>
   have h1:=hpv 0 _ rfl;have h2:=hpat 0 _ rfl;rw[gX]at h1;have hI:=Zzv h2;refine(callsIn_wide.1 (ZEs 5 (by omega) b off (vals 0) l (by simp only[maxLen];omega) (by omega) w (ZjG h1.1) h1.1 hI)).mono ?_;rintro e w' ⟨v,rfl,hrow,hb⟩;refine⟨v,rfl,?_,hb⟩;obtain⟨hlen,hrow⟩:=hrow;rcases hrow with⟨rfl,hz⟩|⟨g,cap,cur,rfl,hbase,hgb,r1,r2,r3,r4⟩
   ·have hss:l=[]:=qI hz;subst hss;rw[show Zab (ZaM [])= .sl [] by simp[ZaM]];exact .slnil _ _
   ·have hcell:∀i z,(ZaM l)[i]? =some z->w'.cell? ⟨g,i,none⟩=some (.int .i64 z):=by
     intro i z hz;have hil:=(uB.1 hz).1;rw[ZuP]at hil;have h3:=qU (λ t:List Value=>t[i]?) r4;simp only[uI,hz,qB]at h3;rw[Bk (by omega),qS]at h3;rw[Zdg hgb];exact h3
    have hlen2:(intsL (ZaM l)).length=l.length:=by rw[uC,ZuP]
    rw[<-hlen2];refine .sl _ g 0 cap 1 (by rw[hlen2];exact r1) r2 (λ d hd=>by obtain⟨z,_,rfl⟩:=uP.1 hd;rfl) (λ i _=> .int .i64 (((ZaM l)[i]?).getD 0)) (λ i d j c hi hj=>?_) (λ i d j c hi hj=>?_)
    ·rw[uI]at hi;cases hz:(ZaM l)[i]? with
     |none=>rw[hz]at hi;cases hi
     |some z=>
      rw[hz]at hi;simp only[qB,yI]at hi;subst hi;cases j with
      |succ j=>simp[D.cells]at hj
      |zero=>exact⟨by rw[jS,gX,qT];exact hcell i z hz,rfl,λ hx=>by have:=hX g hx;omega⟩
    ·rw[uI]at hi;cases hz:(ZaM l)[i]? with
     |none=>rw[hz]at hi;cases hi
     |some z=>
      rw[hz]at hi;simp only[qB,yI]at hi;subst hi;cases j with
      |succ j=>simp[D.cells]at hj
      |zero=>
       simp only[D.cells,Bt,yI]at hj;subst hj;exact .sc _ rfl
theorem ZmC (l:List Int):Zaa Tryz.prog 176 [Zab l] (.fn 220 [.pt [Zab l]]):=by
 refine kE Tryz.func176 ?_;intro hat B X w0;refine kw1 kO kc0 kc0 ?_;rfl
end Go.Proofs.YtjjbhjnpeenbkaaGreatDoor
namespace Go.Proofs.YtjjbhjnpeenbkaaGreatDoor
open Go Go.PS Go.Proofs
set_option maxRecDepth 100000
attribute [local irreducible] Zad wpG Zaa Zag
def at0 (r:List Int)(v:Int):Int:=(r[v.toNat]?).getD 0
theorem ZdK {r:List Int}{v:Int}(h1:0<=v)(h2:v<r.length):r[v.toNat]? =some (at0 r v):=by
 obtain⟨x,hx⟩:=Zac (show v.toNat<r.length by omega);rw[at0,hx];rfl
theorem ZaG {r:List Int}{i:Nat}(h:i<r.length):r[i]? =some (at0 r i):=by
 obtain⟨x,hx⟩:=Zac h;rw[at0,uM,hx];rfl
def ZcN (l:List Int):Nat->Int
 |0=>at0 l 0
 |k+1=>max (ZcN l k) (at0 l ((k+1:Nat):Int))
theorem Zi4 (l:List Int):∀(k j:Nat),j<=k->at0 l j<=ZcN l k
 |0,j,h=>by rw[show j=0 by omega];exact qX _
 |k+1,j,h=>by
  rw[ZcN];rcases uE j (k+1)with h1|h1
  ·have:=Zi4 l k j (by omega);omega
  ·rw[show j=k+1 by omega];omega
theorem ZlJ {l:List Int}{m:Int}(h:∀j:Nat,at0 l j<=m):∀k,ZcN l k<=m
 |0=>h 0
 |k+1=>by rw[ZcN];have:=ZlJ h k;have:=h (k+1);omega
theorem ite_max (a b:Int):(if a<b then b else a)=max a b:=by omega
theorem ZvV (l:List Int)(hl:0<l.length):Zaa Tryz.prog 102 [Zab l] (.int (ZcN l (l.length-1))):=by
 refine kE Tryz.func102 ?_;intro hat B X w0;have hll:=ZaJ 0 hat rfl;rw[uC]at hll;have g0:=ZaG hl;refine kw1 kO (kc1 g0) kc0 ?_;refine Zaf (λ(k:Nat)=>k+1<=l.length) (λ k=>[(0, .d (Zab l)),(3, .int (ZcN l k)),(4, .int ((k:Int)+1))]) (λ k=>[]) (λ k=>l.length-k) 0 ?_ ?_ ?_
 ·omega
 ·exact kN (kc1 @ZcN.eq_1) []
 ·intro k hk;rcases uE (k+1) l.length with hlt|hge
  ·have gk:=ZaG hlt;have e:(((k:Int)+1)).toNat=k+1:=by omega
   refine kw1 kO (kc3 gk e @ite_max) kc0 ?_;refine⟨k+1,?_,kN (kc3 @ZcN.eq_1 @qQ @gV) [],?_⟩
   ·omega
   ·omega
  ·refine kw1 kO kc0 kc0 ?_;have:l.length-1=k:=by omega
   rw[this];rfl
abbrev Lv :=Int×List (List Int)×List Arc×List (List Int)
abbrev lvD (v:Lv):D:= .ag [.int v.1,Zae v.2.1,Zaj v.2.2.1,Zae v.2.2.2]
def lv0 :Lv:=(0,[],[],[])
def Za6 (all:List Int)(k:Nat):List Int:=((List.range all.length).filter λ v=>decide (all[v]? =some (k:Int))).map λ v:Nat=>(v:Int)
theorem ZnW (all:List Int)(x:Int)(k:Nat):Za6 (all++[x]) k=if x=k then Za6 all k++[(all.length:Int)]else Za6 all k:=by
 rw[Za6,uG,yL,qN,gC,uQ];have e:(List.range all.length).filter (λ v=>decide ((all++[x])[v]? =some (k:Int)))=(List.range all.length).filter λ v=>decide (all[v]? =some (k:Int)):=by
  refine List.filter_congr λ v hv=>?_
  rw[qE (uZ.1 hv)]
 rw[e];by_cases h:x=k
 ·rw[if_pos h];simp[Za6,h]
 ·rw[if_neg h];simp[Za6,h]
theorem Zj4 (all:List Int)(k:Nat):(Za6 all k).length<=all.length:=by
 rw[Za6,uC];exact gP (gN _ _) (by simp)
def ZaI (r:List Int)(a:Arc):Nat:=(at0 r a.2-at0 r a.1-1).toNat
def Zan (r:List Int)(a:Arc)(i:Nat):List Int:=(List.range i).map λ j:Nat=>at0 r a.1+1+j
theorem Zod (r:List Int)(a:Arc)(i:Nat):Zan r a (i+1)=Zan r a i++[at0 r a.1+1+i]:=by simp[Zan,qN]
theorem Zhd (r:List Int)(a:Arc)(i:Nat):(Zan r a i).length=i:=by simp[Zan]
def Zas (r:List Int)(l:List Arc)(e:Nat):List Int:=r++(l.take e).flatMap λ a=>Zan r a (ZaI r a)
theorem Ziz {r:List Int}{l:List Arc}{e:Nat}{a:Arc}(h:l[e]? =some a):Zas r l (e+1)=Zas r l e++Zan r a (ZaI r a):=by
 simp[Zas,ZaA h]
def Zcw (n0:Nat)(a:Arc)(i:Nat):List Int:=a.1::(List.range i).map λ j:Nat=>((n0+j:Nat):Int)
theorem ZqH (n0:Nat)(a:Arc)(i:Nat):Zcw n0 a (i+1)=Zcw n0 a i++[((n0+i:Nat):Int)]:=by simp[Zcw,qN]
theorem Zgn (n0:Nat)(a:Arc)(i:Nat):(Zcw n0 a i).length=i+1:=by simp[Zcw]
def ZaB (r:List Int)(n0:Nat)(a:Arc):List Int:=Zcw n0 a (ZaI r a)++[a.2]
theorem Zll (r:List Int)(n0:Nat)(a:Arc):(ZaB r n0 a).length=ZaI r a+2:=by simp[ZaB,Zgn]
def Zhi (c:List Int)(j:Nat):Arc:=(at0 c j,at0 c ((j+1:Nat):Int))
def ZbV (c:List Int)(j:Nat):List Arc:=(List.range j).map (Zhi c)
theorem Ztl (c:List Int)(j:Nat):ZbV c (j+1)=ZbV c j++[Zhi c j]:=by simp[ZbV,qN]
theorem Zox (c:List Int)(j:Nat):(ZbV c j).length=j:=by simp[ZbV]
def ZjH (r:List Int)(l:List Arc)(e:Nat):List (List Int):=match l[e]? with
 |some a=>[ZaB r (Zas r l e).length a]
 |none=>[]
def Za8 (r:List Int)(l:List Arc)(e:Nat):List (List Int):=Za2 (ZjH r l) e
def ZiD (r:List Int)(l:List Arc)(e:Nat):List Arc:=match l[e]? with
 |some a=>ZbV (ZaB r (Zas r l e).length a) (ZaI r a+1)
 |none=>[]
def ZaV (r:List Int)(l:List Arc)(e:Nat):List Arc:=Za2 (ZiD r l) e
def Zfa (g:Gr)(r:List Int):Lv:=
 (g.1,if g.1=0 then[]else(List.range (ZcN r (r.length-1)+1).toNat).map λ k=>Za6 (Zas r g.2 g.2.length) k,ZaV r g.2 g.2.length,Za8 r g.2 g.2.length)
def Zba (r:List Int)(l:List Arc):Nat->Int
 |0=>0
 |k+1=>Zba r l k+match l[k]? with|some a=>at0 r a.2-at0 r a.1-1|none=>0
def ZcY (r:List Int)(a:Arc):Bool:=decide (at0 r a.2-at0 r a.1-1<0)
def Zeh (g:Gr)(r:List Int):Bool:=gOk g&&decide ((r.length:Int)=g.1)&& !r.any Zdo
def Zay (g:Gr)(r:List Int):Lv×Int:=
 if Zeh g r=false then(lv0,1)else if g.2.any ZdU then(lv0,8)else if g.2.any (ZcY r)then(lv0,3)
 else if 512<g.1+Zba r g.2 g.2.length then(lv0,2)else(Zfa g r,0)
end Go.Proofs.YtjjbhjnpeenbkaaGreatDoor
