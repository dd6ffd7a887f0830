/- Contracts of small functions on digraphs. -/
import Derived.Test.YtjjbhjnpeenbkaaGreatDoorTypes
import Derived.Shelf.Sort.Plain
import Derived.Shelf.Slices.In.SortNone
import Derived.Sort.OwnSortedInts
import Derived.Ground.NamesProg
import Derived.RangeFuncBox
import Derived.RangeFuncLeaves
import Derived.Shelf.Abstract
import Derived.WalkKit
import Derived.OwnWalkIn
import Derived.TacticsInMore
import Derived.LoopNIn
import Derived.LoopIn
import Derived.Maps.AppendAt
set_option linter.unusedSimpArgs false
set_option linter.unusedVariables false
set_option maxHeartbeats 16000000
namespace Go.Proofs.YtjjbhjnpeenbkaaGreatDoor
open Go Go.PS Go.Proofs
set_option maxRecDepth 100000
attribute [local irreducible] ao wpG ah
abbrev Arc :=Int×Int
abbrev bo (a:Arc):D:= .ag [.int a.1, .int a.2]
theorem BR (p q:Arc):(decide (p.1=q.1)&&decide (p.2=q.2))=decide (p=q):=by
 rw[qW];simp[Prod.ext_iff]
abbrev aw (l:List Arc):D:= .sl (l.map bo)
abbrev aj (l:List Int):D:= .sl (l.map D.int)
abbrev Gr :=Int×List Arc
abbrev gD (g:Gr):D:= .ag [.int g.1,aw g.2]
def j3 (n:Int)(a:Arc):Bool:=decide (0<=a.1/\a.1<n/\0<=a.2/\a.2<n)
def gOk (g:Gr):Bool:=decide (0<=g.1/\g.1<=64/\g.2.length<=256)&& !g.2.any (λ a=> !j3 g.1 a)
theorem rx {g:Gr}(h:gOk g=true):0<=g.1/\g.1<=64/\g.2.length<=256/\∀(k:Nat) a,g.2[k]? =some a->0<=a.1/\a.1<g.1/\0<=a.2/\a.2<g.1:=by
 simp only[gOk,uN,uG,yL,qH]at h;obtain⟨⟨Z,Y,X⟩,V⟩:=h;refine⟨Z,Y,X,λ k a U=>?_⟩;have:=V a (uA U);simpa[j3]using this
theorem mU (g:Gr):ah Tryz.prog 97 [gD g] (.bool (gOk g)):=by
 obtain⟨n,l⟩:=g;refine kE Tryz.func97 ?_;intro Y B X N;have R:=cO 0 1 Y rfl rfl;rw[uC]at R;refine kw kO aa aa ?_
 repeat' first|exact True.intro|refine Bn.mk ?_ ?_|intro T
 all_goals try (refine ay ?_;simp[gOk];omega)
 refine aq (λ(k:Nat)=>k<=l.length/\∀(j:Nat) y,j<k->l[j]? =some y->(!j3 n y)=false) (λ k=>[(1, .ptr 1 0 0 0),(20, .d (aw l)),(21, .int l.length),(22, .int k)]) (λ k=>[(1, .cells [.int n, .d (aw l)])]) (λ k=>l.length-k) 0 ?_ ?_ ?_
 ·exact⟨uF _,λ j y h=>xA⟩
 ·exact kN aa []
 ·rintro k ⟨O,Z⟩;rcases uD k l.length with V|S
  ·obtain⟨p,U⟩:=ak V;refine kw kO (ae U) aa ?_
   repeat' first|exact True.intro|refine Bn.mk ?_ ?_|intro T
   all_goals try
    refine ay ?_;rw[gOk,dk U (by simp[j3];omega)];simp
   ·refine⟨k+1,?_,eL [] _ _ (by refine⟨?_,?_⟩<;>(repeat' first|exact fmn|refine fmc ⟨(by first|rfl|(simp(disch:=omega) only[go_sem,simprocAttr,inL];first|done|omega|(congr 1;done))),?_⟩);done),?_⟩
    ·exact⟨xA,b9 Z U (by simp[j3];omega)⟩
    ·omega
  ·refine ac kO aa aa ?_;refine ay ?_;rw[gOk,d6 (λ j y Q=>Z j y xA)];simp;omega
theorem p6 (g:Gr):ah Tryz.prog 112 [gD g] (.bool (gOk g)):=by
 obtain⟨n,l⟩:=g;refine kE Tryz.func112 ?_;intro Y B X N;have R:=cO 0 1 Y rfl rfl;rw[uC]at R;refine kw kO aa aa ?_
 repeat' first|exact True.intro|refine Bn.mk ?_ ?_|intro T
 all_goals try (refine ay ?_;simp[gOk];omega)
 refine aq (λ(k:Nat)=>k<=l.length/\∀(j:Nat) y,j<k->l[j]? =some y->(!j3 n y)=false) (λ k=>[(1, .ptr 1 0 0 0),(3, .int k)]) (λ k=>[(1, .cells [.int n, .d (aw l)])]) (λ k=>l.length-k) 0 ?_ ?_ ?_
 ·exact⟨uF _,λ j y h=>xA⟩
 ·exact kN aa []
 ·rintro k ⟨O,Z⟩;rcases uD k l.length with V|S
  ·obtain⟨p,U⟩:=ak V;refine kw kO (ae U) aa ?_
   repeat' first|exact True.intro|refine Bn.mk ?_ ?_|intro T
   all_goals try
    refine ay ?_;rw[gOk,dk U (by simp[j3];omega)];simp
   ·refine⟨k+1,?_,eL [] _ _ (by refine⟨?_,?_⟩<;>(repeat' first|exact fmn|refine fmc ⟨(by first|rfl|(simp(disch:=omega) only[go_sem,simprocAttr,inL];first|done|omega|(congr 1;done))),?_⟩);done),?_⟩
    ·exact⟨xA,b9 Z U (by simp[j3];omega)⟩
    ·omega
  ·refine ac kO aa aa ?_;refine ay ?_;rw[gOk,d6 (λ j y Q=>Z j y xA)];simp;omega
theorem Lz (l m:List Arc):ah Tryz.prog 174 [aw l,aw m] (.bool (decide (l=m))):=by
 refine kE Tryz.func174 ?_;intro Z B X M;have Q:=bI 0 Z rfl;have O:=bI 1 Z rfl;rw[uC]at Q O;by_cases Y:l.length=m.length
 ·refine ac kO aa aa ?_;refine aq (λ(k:Nat)=>k<=l.length/\l.take k=m.take k) (λ k=>[(0, .d (aw l)),(1, .d (aw m)),(12, .int l.length),(13, .int k)]) (λ k=>[]) (λ k=>l.length-k) 0 ?_ ?_ ?_
  ·exact⟨uF _,rfl⟩
  ·exact kN aa []
  ·rintro k ⟨N,h⟩;rcases uD k l.length with V|U
   ·obtain⟨p,T⟩:=ak V;obtain⟨q,S⟩:=ak (Y▸V);refine kw kO (av T S @BR) aa ?_
    repeat' first|exact True.intro|refine Bn.mk ?_ ?_|intro R
    ·refine ay ?_;rw[uW (mP T S R)]
    ·refine⟨k+1,?_,eL [] _ _ (by refine⟨?_,?_⟩<;>(repeat' first|exact fmn|refine fmc ⟨(by first|rfl|(simp(disch:=omega) only[go_sem,simprocAttr,inL];first|done|omega|(congr 1;done))),?_⟩);done),?_⟩
     ·exact⟨xA,by rw[aM T,aM S,h,R]⟩
     ·omega
   ·refine ac kO aa aa ?_;refine ay ?_;rw[uE U,uE xA]at h;simp[h]
 ·refine ac kO aa aa ?_;refine ay ?_;rw[uW];rintro rfl;exact Y rfl
def placeF (l:List Int)(n:Int):Int:=eh (l.findIdx? (λ x=>decide (x=n)))
theorem tA (l:List Int)(n:Int):ah Tryz.prog 170 [aj l, .int n] (.int (placeF l n)):=by
 refine kE Tryz.func170 ?_;intro Y B X N;have Q:=bI 0 Y rfl;rw[uC]at Q;refine ac kO aa aa ?_;refine aq (λ(k:Nat)=>k<=l.length/\∀(j:Nat) y,j<k->l[j]? =some y->(decide (y=n))=false) (λ k=>[(0, .d (aj l)),(1, .int n),(7, .int l.length),(8, .int k)]) (λ k=>[]) (λ k=>l.length-k) 0 ?_ ?_ ?_
 ·exact⟨uF _,λ j y h=>xA⟩
 ·exact kN aa []
 ·rintro k ⟨O,Z⟩;rcases uD k l.length with V|R
  ·obtain⟨p,U⟩:=ak V;refine kw kO (ae U) aa ?_
   repeat' first|exact True.intro|refine Bn.mk ?_ ?_|intro T
   ·refine ap ?_;rw[placeF,jc U (by simpa using T.symm) Z];rfl
   ·refine⟨k+1,?_,eL [] _ _ (by refine⟨?_,?_⟩<;>(repeat' first|exact fmn|refine fmc ⟨(by first|rfl|(simp(disch:=omega) only[go_sem,simprocAttr,inL];first|done|omega|(congr 1;done))),?_⟩);done),?_⟩
    ·exact⟨xA,b9 Z U (by simpa using λ h=>T h.symm)⟩
    ·omega
  ·refine ac kO aa aa ?_;refine ap ?_;rw[placeF,ka (λ j y S=>Z j y (by have:=(uB.1 S).1;omega) S)];rfl
theorem DZ (l m:List Int):ah Tryz.prog 173 [aj l,aj m] (.bool (decide (l=m))):=by
 refine kE Tryz.func173 ?_;intro Z B X M;have Q:=bI 0 Z rfl;have O:=bI 1 Z rfl;rw[uC]at Q O;by_cases Y:l.length=m.length
 ·refine ac kO aa aa ?_;refine aq (λ(k:Nat)=>k<=l.length/\l.take k=m.take k) (λ k=>[(0, .d (aj l)),(1, .d (aj m)),(12, .int l.length),(13, .int k)]) (λ k=>[]) (λ k=>l.length-k) 0 ?_ ?_ ?_
  ·exact⟨uF _,rfl⟩
  ·exact kN aa []
  ·rintro k ⟨N,h⟩;rcases uD k l.length with V|U
   ·obtain⟨p,T⟩:=ak V;obtain⟨q,S⟩:=ak (Y▸V);refine kw kO (ai T S) aa ?_
    repeat' first|exact True.intro|refine Bn.mk ?_ ?_|intro R
    ·refine ay ?_;rw[uW (mP T S R)]
    ·refine⟨k+1,?_,eL [] _ _ (by refine⟨?_,?_⟩<;>(repeat' first|exact fmn|refine fmc ⟨(by first|rfl|(simp(disch:=omega) only[go_sem,simprocAttr,inL];first|done|omega|(congr 1;done))),?_⟩);done),?_⟩
     ·exact⟨xA,by rw[aM T,aM S,h,R]⟩
     ·omega
   ·refine ac kO aa aa ?_;refine ay ?_;rw[uE U,uE xA]at h;simp[h]
 ·refine ac kO aa aa ?_;refine ay ?_;rw[uW];rintro rfl;exact Y rfl
abbrev am (l:List (List Int)):D:= .sl (l.map aj)
theorem Ly (l m:List (List Int)):ah Tryz.prog 172 [am l,am m, .fn 173 []] (.bool (decide (l=m))):=by
 refine kE Tryz.func172 ?_;intro Y B X L;have O:=bI 0 Y rfl;have N:=bI 1 Y rfl;rw[uC]at O N;by_cases V:l.length=m.length
 ·refine ac kO aa aa ?_;refine aq (λ(k:Nat)=>k<=l.length/\l.take k=m.take k) (λ k=>[(0, .d (am l)),(1, .d (am m)),(2, .d (.fn 173 [])),(15, .d (am l)),(16, .int l.length),(17, .int k)]) (λ k=>[]) (λ k=>l.length-k) 0 ?_ ?_ ?_
  ·exact⟨uF _,rfl⟩
  ·exact kN aa []
  ·rintro k ⟨M,h⟩;rcases uD k l.length with U|Q
   ·obtain⟨p,S⟩:=ak U;obtain⟨q,R⟩:=ak (V▸U);have T:=DZ p q;by_cases Z:p=q
    ·rw[uZ Z]at T;refine ac kO (ai S R) (ae T) ?_;refine⟨k+1,?_,kN aa [],?_⟩
     ·exact⟨xA,by rw[aM S,aM R,h,Z]⟩
     ·omega
    ·rw[uW Z]at T;refine ac kO (ai S R) (ae T) ?_;refine ay ?_;rw[uW (mP S R Z)]
   ·refine ac kO aa aa ?_;refine ay ?_;rw[uE Q,uE xA]at h;simp[h]
 ·refine ac kO aa aa ?_;refine ay ?_;rw[uW];rintro rfl;exact V rfl
theorem MA (l:List Int)(g:Nat)(p:Int->Bool)(N:∀x,ah Tryz.prog g [.int x] (.bool (p x))):ah Tryz.prog 163 [aj l, .fn g []] (.int (eh (l.findIdx? p))):=by
 refine kE Tryz.func163 ?_;intro U B X L;have O:=bI 0 U rfl;rw[uC]at O;refine ac kO aa aa ?_;refine aq (λ(k:Nat)=>k<=l.length/\∀(j:Nat) y,j<k->l[j]? =some y->p y=false) (λ k=>[(0, .d (aj l)),(1, .d (.fn g [])),(7, .int l.length),(8, .int k)]) (λ k=>[]) (λ k=>l.length-k) 0 ?_ ?_ ?_
 ·exact⟨uF _,λ j y h=>xA⟩
 ·exact kN aa []
 ·rintro k ⟨M,Z⟩;rcases uD k l.length with S|Q
  ·obtain⟨x,V⟩:=ak S;have Y:=N x;rcases T:p x with _|_<;>rw[T]at Y
   ·refine ac kO (ae V) (ae Y) ?_;refine⟨k+1,?_,kN aa [],?_⟩
    ·exact⟨xA,b9 Z V T⟩
    ·omega
   ·refine ac kO (ae V) (ae Y) ?_;refine ap ?_;rw[jc V T Z];rfl
  ·refine ac kO aa aa ?_;refine ap ?_;rw[ka (λ j y R=>Z j y (by have:=(uB.1 R).1;omega) R)];rfl
theorem Mz (l:List Arc)(g:Nat)(p:Arc->Bool)(N:∀x,ah Tryz.prog g [bo x] (.bool (p x))):ah Tryz.prog 164 [aw l, .fn g []] (.int (eh (l.findIdx? p))):=by
 refine kE Tryz.func164 ?_;intro U B X L;have O:=bI 0 U rfl;rw[uC]at O;refine ac kO aa aa ?_;refine aq (λ(k:Nat)=>k<=l.length/\∀(j:Nat) y,j<k->l[j]? =some y->p y=false) (λ k=>[(0, .d (aw l)),(1, .d (.fn g [])),(7, .int l.length),(8, .int k)]) (λ k=>[]) (λ k=>l.length-k) 0 ?_ ?_ ?_
 ·exact⟨uF _,λ j y h=>xA⟩
 ·exact kN aa []
 ·rintro k ⟨M,Z⟩;rcases uD k l.length with S|Q
  ·obtain⟨x,V⟩:=ak S;have Y:=N x;rcases T:p x with _|_<;>rw[T]at Y
   ·refine ac kO (ae V) (ae Y) ?_;refine⟨k+1,?_,kN aa [],?_⟩
    ·exact⟨xA,b9 Z V T⟩
    ·omega
   ·refine ac kO (ae V) (ae Y) ?_;refine ap ?_;rw[jc V T Z];rfl
  ·refine ac kO aa aa ?_;refine ap ?_;rw[ka (λ j y R=>Z j y (by have:=(uB.1 R).1;omega) R)];rfl
theorem ti (l:List Int)(g:Nat)(p:Int->Bool)(Y:∀x,ah Tryz.prog g [.int x] (.bool (p x))):ah Tryz.prog 98 [aj l, .fn g []] (.bool (l.any p)):=by
 have h:=MA l g p Y;refine kE Tryz.func98 ?_;intro Z B X V;refine ac kO aa (ae h) ?_;exact ay (oB p l)
theorem C9 (l:List Arc)(g:Nat)(p:Arc->Bool)(Y:∀x,ah Tryz.prog g [bo x] (.bool (p x))):ah Tryz.prog 100 [aw l, .fn g []] (.bool (l.any p)):=by
 have h:=Mz l g p Y;refine kE Tryz.func100 ?_;intro Z B X V;refine ac kO aa (ae h) ?_;exact ay (oB p l)
def fI (k:Int):Bool:=decide (k<0\/255<k)
theorem yd (k:Int):ah Tryz.prog 99 [.int k] (.bool (fI k)):=by
 refine kE Tryz.func99 ?_;intro h B X Y;refine kw kO aa aa ?_
 repeat' first|exact True.intro|refine Bn.mk ?_ ?_|intro Z
 all_goals
  refine ay ?_;simp[fI];omega
def g8 (a:Arc):Bool:=decide (a.1=a.2)
theorem Ft (a:Arc):ah Tryz.prog 101 [bo a] (.bool (g8 a)):=by
 refine kE Tryz.func101 ?_;intro h B X Z;refine ac kO aa aa ?_
 all_goals exact ay rfl
end Go.Proofs.YtjjbhjnpeenbkaaGreatDoor
namespace Go.Proofs
open Go.Shelf
def Tryz.laysSort_ren :Go.Shelf.Ren:=⟨λ|189=>219|125=>250|257=>249|128=>274|129=>275|294=>265|295=>266|296=>267|297=>268|298=>269|299=>270|216=>271|300=>272|301=>273|328=>283|329=>284|330=>285|331=>286|332=>287|215=>282|343=>291|n=>n,λ|28=>38|3=>3|46=>168|0=>0|51=>274|53=>276|4=>4|183=>282|182=>281|131=>285|5=>5|9=>9|218=>292|222=>296|228=>298|229=>160|n=>n,λ|n=>n⟩
theorem Tryz.laysSort :Go.Proofs.Lays.n189 Tryz.prog Tryz.laysSort_ren:={
 mixed:=xD
 f125:=Tryz.func250.trans (gL some xD)
 f128:=Tryz.func274.trans (gL some xD)
 f129:=Tryz.func275.trans (gL some xD)
 f189:=Tryz.func219.trans (gL some xD)
 f215:=Tryz.func282.trans (gL some xD)
 f216:=Tryz.func271.trans (gL some xD)
 f257:=Tryz.func249.trans (gL some xD)
 f294:=Tryz.func265.trans (gL some xD)
 f295:=Tryz.func266.trans (gL some xD)
 f296:=Tryz.func267.trans (gL some xD)
 f297:=Tryz.func268.trans (gL some xD)
 f298:=Tryz.func269.trans (gL some xD)
 f299:=Tryz.func270.trans (gL some xD)
 f300:=Tryz.func272.trans (gL some xD)
 f301:=Tryz.func273.trans (gL some xD)
 f328:=Tryz.func283.trans (gL some xD)
 f329:=Tryz.func284.trans (gL some xD)
 f330:=Tryz.func285.trans (gL some xD)
 f331:=Tryz.func286.trans (gL some xD)
 f332:=Tryz.func287.trans (gL some xD)
 f343:=Tryz.func291.trans (gL some xD)
 t0:=Tryz.underlying0
 a0:=Tryz.isAgg0
 z0:=Tryz.sizeOf0
 v0:=Tryz.zeroValue0
 t3:=Tryz.underlying3
 a3:=Tryz.isAgg3
 z3:=Tryz.sizeOf3
 v3:=Tryz.zeroValue3
 t4:=Tryz.underlying4
 a4:=Tryz.isAgg4
 z4:=Tryz.sizeOf4
 v4:=Tryz.zeroValue4
 t5:=Tryz.underlying5
 a5:=Tryz.isAgg5
 z5:=Tryz.sizeOf5
 v5:=Tryz.zeroValue5
 t9:=Tryz.underlying9
 a9:=Tryz.isAgg9
 z9:=Tryz.sizeOf9
 v9:=Tryz.zeroValue9
 t28:=Tryz.underlying38
 a28:=Tryz.isAgg38
 z28:=Tryz.sizeOf38
 v28:=Tryz.zeroValue38
 t46:=Tryz.underlying168
 a46:=Tryz.isAgg168
 z46:=Tryz.sizeOf168
 v46:=Tryz.zeroValue168
 t51:=Tryz.underlying274
 a51:=Tryz.isAgg274
 z51:=Tryz.sizeOf274
 v51:=Tryz.zeroValue274
 t53:=Tryz.underlying276
 a53:=Tryz.isAgg276
 z53:=Tryz.sizeOf276
 v53:=Tryz.zeroValue276
 t131:=Tryz.underlying285
 a131:=Tryz.isAgg285
 z131:=Tryz.sizeOf285
 v131:=Tryz.zeroValue285
 t182:=Tryz.underlying281
 a182:=Tryz.isAgg281
 z182:=Tryz.sizeOf281
 v182:=Tryz.zeroValue281
 t183:=Tryz.underlying282
 a183:=Tryz.isAgg282
 z183:=Tryz.sizeOf282
 v183:=Tryz.zeroValue282
 t218:=Tryz.underlying292
 a218:=Tryz.isAgg292
 z218:=Tryz.sizeOf292
 v218:=Tryz.zeroValue292
 t222:=Tryz.underlying296
 a222:=Tryz.isAgg296
 z222:=Tryz.sizeOf296
 v222:=Tryz.zeroValue296
 t228:=Tryz.underlying298
 a228:=Tryz.isAgg298
 z228:=Tryz.sizeOf298
 v228:=Tryz.zeroValue298
 t229:=Tryz.underlying160
 a229:=Tryz.isAgg160
 z229:=Tryz.sizeOf160
 v229:=Tryz.zeroValue160}
end Go.Proofs
namespace Go.Proofs.YtjjbhjnpeenbkaaGreatDoor
open Go Go.PS Go.Proofs Go.Sort Go.RowKit
abbrev intsL (l:List Int):List D:=l.map D.int
def bh (l:List Int):List Int:=l.mergeSort λ x y=>decide (x<=y)
theorem us (l:List Int):(bh l).length=l.length:=by simp[bh]
end Go.Proofs.YtjjbhjnpeenbkaaGreatDoor
namespace Go.Proofs.YtjjbhjnpeenbkaaGreatDoor
open Go Go.Proofs Go.RowKit Go.Shelf
attribute [local go_sem] Oper.semAt_some
def ij {α:Type}(f:Nat->α)(k:Nat):List α:=(List.range k).map f
theorem IL {α:Type}(f:Nat->α)(k:Nat):ij f (k+1)=ij f k++[f k]:=by simp[ij,qE]
theorem TN {α:Type}(f:Nat->α)(k:Nat):(ij f k).length=k:=by simp[ij]
theorem TM (zs:List Int):ij (λ j=>zs[j]?.getD 0) zs.length=zs:=by
 apply List.ext_getElem
 ·simp[ij]
 ·intro i h1 h2;simp[ij,h2]
theorem TO (zs:List Int){k:Nat}(hk:k<=zs.length):ij (λ j=>zs[j]?.getD 0) k=zs.take k:=by
 apply List.ext_getElem
 ·simp[ij,hk]
 ·intro i h1 h2;have:i<zs.length:=by simp[ij]at h1;omega
  simp[ij,this]
def mT (n₀:Nat)(W:World)(sv:Value)(zs:List Int):Prop:=
 (∃a cap,sv= .slice a 0 cap/\zs=[])\/∃b off cap,sv= .slice (some ⟨b,off,none⟩) zs.length cap/\b<n₀/\∀j,j<zs.length->W.cell? ⟨b,off+j,none⟩=some (.int .i64 (zs[j]?.getD 0))
theorem mT.below {n₀:Nat}{A B:World}(h:Below n₀ A B){sv:Value}{zs:List Int}:mT n₀ A sv zs->mT n₀ B sv zs
 | .inl e=> .inl e
 | .inr ⟨b,off,cap,e,hb,hc⟩=> .inr ⟨b,off,cap,e,hb,λ j hj=>(h.cell (p:=⟨b,off+j,none⟩) hb).trans (hc j hj)⟩
set_option maxRecDepth 100000 in
theorem TS (F:Fence)(n:Nat)(h7:F.fn 220)(hro:F.round=none)(hn:1<=n)(l Bs ob n₀ b off len cap:Nat)(zs:List Int)(hreach:len*8<=140737488351232)(hb:b<n₀)(J Jx:List Int->World->Prop)
  (hY:∀pre x W,J pre W->pre.length<len->YieldAt F (n-1) Tryz.prog l #[.int .i64 x] W λ e W'=>
   (e= .returned (.bool true)/\J (pre++[x]) W'/\Below n₀ W W')\/(e= .returned (.bool false)/\Jx (pre++[x]) W'))
  (W:World)(hBs:W.cell? ⟨Bs,ob,none⟩=some (.slice (some ⟨b,off,none⟩) len cap))(hc:∀j,j<len->W.cell? ⟨b,off+j,none⟩=some (.int .i64 (zs[j]?.getD 0)))(h0:J [] W):
  CallsIn F n Tryz.prog 220 #[.func (.yield l) #[] #[], .pointer (some ⟨Bs,ob,none⟩)] W λ e W'=>(∃v,e= .returned v)/\
   ((∃ys,ys=ij (λ j=>zs[j]?.getD 0) len/\J ys W')\/(∃pre,(∃k,k<=len/\pre=ij (λ j=>zs[j]?.getD 0) k)/\Jx pre W')):=by
 refine callsIn_of_wp Tryz.func220 rfl h7 ?_ hro;simp only[Tryz.ntmps220,zA,uV,uU,Nat.reduceAdd,Nat.reduceSub,Ae,Af,Be,zT,gB,gK]
 gi_wp2
 gi_loopw [7] (λ i wr=>∃k:Nat,k<=len/\i= .int .i64 k/\J (ij (λ j=>zs[j]?.getD 0) k) wr/\Below n₀ W wr)
  (λ i _=>len-(intOf i).toNat)
 case atStart=>exact⟨0,uF _,rfl,h0,Below.refl _ _⟩
 case round=>
  obtain⟨k,hk,rfl,hJs,hnx⟩:=hrel;have hcx:k<len->wr.cell? ⟨b,off+k,none⟩=some (.int .i64 (zs[k]?.getD 0)):=λ h=>(hnx.cell (p:=⟨b,off+k,none⟩) hb).trans (hc k h)
  by_cases hlt:k<len
  ·obtain⟨fn,tmps,assign,body,hy,hR⟩:=hY _ (zs[k]?.getD 0) wr hJs (by rw[TN];exact hlt);have hcx':=hcx hlt
   gi_wp2
   refine hR.mono ?_;rintro e W3 (⟨rfl,hJ3,hk3⟩|⟨rfl,hJx3⟩)
   ·gi_wp2
    go_roundw
    case rel=>exact⟨k+1,xA,xB,by rw[IL];exact hJ3,hnx.trans hk3⟩
    case measure=>simp[intOf];omega
   ·gi_wp2
    refine bodyPost_ret (results_none rfl _ _ _) rfl ?_;exact⟨⟨_,rfl⟩, .inr ⟨_,⟨k+1,xA,(IL _ _).symm⟩,hJx3⟩⟩
  ·obtain rfl:k=len:=xA
   gi_wp2
   go_end0
   exact⟨⟨_,rfl⟩, .inl ⟨_,rfl,hJs⟩⟩
set_option maxRecDepth 100000 in
theorem TU (F:Fence)(n:Nat)(h7:F.fn 220)(hro:F.round=none)(l Bs ob cap:Nat)(a:Option Addr)(J:List Int->World->Prop)(W:World)(hBs:W.cell? ⟨Bs,ob,none⟩=some (.slice a 0 cap))(h0:J [] W):
  CallsIn F n Tryz.prog 220 #[.func (.yield l) #[] #[], .pointer (some ⟨Bs,ob,none⟩)] W λ e W'=>(∃v,e= .returned v)/\J [] W':=by
 refine callsIn_of_wp Tryz.func220 rfl h7 ?_ hro;simp only[Tryz.ntmps220,zA,uV,uU,Nat.reduceAdd,Nat.reduceSub,Ae,Af,Be,zT,gB,gK]
 gi_wp2
 gi_loopw [7] (λ i wr=>i= .int .i64 0/\J [] wr) (λ _ _=>0)
 case atStart=>exact⟨rfl,h0⟩
 case round=>
  obtain⟨rfl,hJs⟩:=hrel
  gi_wp2
  go_end0
  exact⟨⟨_,rfl⟩,hJs⟩
theorem TV (F:Fence)(n:Nat)(h7:F.fn 220)(hro:F.round=none)(hn:1<=n)(Bs ob n₀:Nat)(sv:Value)(zs:List Int)(hreach:zs.length*8<=140737488351232)(w:World)(hBs:Bs<w.heap.size)(hn₀:n₀<=w.heap.size)
  (hc:w.cell? ⟨Bs,ob,none⟩=some sv)(hI:mT n₀ w sv zs):
  SeqStopsK F n Tryz.prog 220 #[.pointer (some ⟨Bs,ob,none⟩)] (λ x:Int=>#[Value.int .i64 x]) (Below n₀) (λ ys=>ys=zs) (λ pre=>pre<+:zs) zs.length w:=λ l J Jx W hW _ _ hY h0=>by
 have hc':=(hW.cell (p:=⟨Bs,ob,none⟩) hBs).trans hc;rcases hI.below (hW.mono hn₀)with⟨a,cap,rfl,rfl⟩|⟨b,off,cap,rfl,hb,hcs⟩
 ·exact(TU F n h7 hro l Bs ob cap a J W hc' h0).mono λ e W' ⟨he,hj⟩=>⟨he, .inl ⟨_,rfl,hj⟩⟩
 ·refine(TS F n h7 hro hn l Bs ob n₀ b off zs.length cap zs hreach hb J Jx hY W hc' hcs h0).mono ?_;rintro e W' ⟨he,⟨ys,rfl,hj⟩|⟨pre,⟨k,hk,rfl⟩,hj⟩⟩
  ·exact⟨he, .inl ⟨_,TM zs,hj⟩⟩
  ·exact⟨he, .inr ⟨_,by rw[TO zs hk];exact List.take_prefix _ _,hj⟩⟩
theorem MF :(Tryz.prog.info? 3).map (λ i=>(i.zero,i.size,i.bytes))=some (some (.int .i64 0),1,8):=xD
set_option maxRecDepth 100000 in
theorem JJ (F:Fence)(n:Nat)(h3:F.fn 248)(h5:F.fn 220)(hro:F.round=none)(hn:3<=n)(Bs ob:Nat)(sv:Value)(zs:List Int)(hlen:zs.length<=maxLen)(hbytes:zs.length*8<=140737488351232)(w:World)
  (hBs:Bs<w.heap.size)(hc:w.cell? ⟨Bs,ob,none⟩=some sv)(hI:mT w.heap.size w sv zs):
  CallsIn F n Tryz.prog 248 #[.slice none 0 0, .func (.func 220) #[] #[.pointer (some ⟨Bs,ob,none⟩)]] w λ e W'=>∃v,e= .returned v/\W'.ownsRow w.heap.size 3 1 v zs.length (zs.map (Value.int .i64))/\(v= .slice none 0 0↔zs=[])/\Below w.heap.size w W':=by
 have h1:1<=n:=xA;obtain⟨i0,hi,hz0,hz1,hz2⟩:=info_parts MF;refine callsIn_of_wp_marks Tryz.func248 rfl h3 ?_ hro;simp only[Tryz.ntmps248,zA,uV,uU,Nat.reduceAdd,Nat.reduceSub,Ae,Af,Be,zT,gB,gK]
 gi_wp2
 have bO:=Boxed.new w 38 (.slice none 0 0);have hB0:Below w.heap.size w (w.alloc (.cells #[.slice none 0 0] 38)):=(Below.refl _ w).alloc (uI _) _;refine wpIn_rangeFunc_ownG hro h1 (gf:=220) (lb:=#[.pointer (some ⟨Bs,ob,none⟩)]) rfl h5 (enters_of Tryz.func220 xD rfl)
  (TV F (n-1) h5 hro xA Bs ob w.heap.size sv zs hbytes _ (by simp;omega) xB ((hB0.cell (p:=⟨Bs,ob,none⟩) hBs).trans hc) (hI.below hB0)) belowK_t (belowK_b xB) (Below.refl _ _) (λ _=>rfl)
  (λ pre W=>(∃v,Boxed W w.heap.size 38 v/\W.ownsRow w.heap.size 3 1 v pre.length (pre.map (Value.int .i64))/\(v= .slice none 0 0↔pre=[]))/\Below w.heap.size w W)
  (λ _ _ _=>False)
  (OwnFrom.and (Own.from (holdsRow_own w.heap.size w.heap.size 38 3 1 (λ pre=>pre.length) (λ pre=>pre.map (Value.int .i64)) (λ pre v=>v= .slice none 0 0↔pre=[])) _) (ownFrom_below (uI _) xB))
  (λ _ _ _ _ _ hs _ _=>hs)
  ⟨⟨_,bO,World.ownsRow_nil _ _ _ _,xB⟩,hB0⟩
  (λ x=>{tmps:=#[.slice none 0 0, .func (.func 220) #[] #[.pointer (some ⟨Bs,ob,none⟩)], .pointer (some ⟨w.heap.size,0,none⟩),undef, .slice none 0 0, .int .i64 x, .func (.func 220) #[] #[.pointer (some ⟨Bs,ob,none⟩)], .int .i64 x,undef,undef,undef,undef,undef],defers:=[]}) ?assign ?body ?done ?stop
 case assign=>
  intro l x W K hK
  gi_wp2
  exact hK
 case body=>
  rintro l pre x W ⟨⟨v,hv,hrow,hnil⟩,hB⟩ hlt;have hc:=hv.cell
  gi_wp2_with (gi_at_builtin;refine wpListIn_append_own _ rfl _ _ 38 rfl w.heap.size 3 i0 (.int .i64 0) 1 8 Tryz.underlying38 hi hz0 hz1 hz2 rfl xC _ _ _ rfl (hrow.alloc _) ⟨W.heap.size,0,none⟩ 1 1 [.int .i64 x] rfl rfl (cell_one_new _ _ _) (by simp[Value.oneCell']) xA xA (by have:=hB.size;simp;omega) ?_;intro v' w1 hown' hgrow _;obtain⟨g',cap',rfl⟩:=ownsRow_succ hown';obtain⟨hv1,hv2,hr2,hk2,hb2⟩:=hv.appended xC hrow hB.size (uI _) hown' hgrow;have hc1:=hv1.cell;have hf1:=hv1.frozen)
  exact⟨hk2.from _,hb2,⟨_,hv2,by simpa using hr2,xB⟩,hB.trans hb2⟩
 case done=>
  rintro D ys W hD rfl ⟨⟨v,hv,hrow,hnil⟩,hB⟩ hK;have hc:=hv.cell
  gi_wp2
  refine⟨xB, .inl ⟨_,_,rfl,run_takeDeferred hK,?_⟩⟩;exact⟨_,results_tmp rfl _ _ _,v,rfl,ownsRow_putObj hrow _ hK rfl,hnil,hB.trans (belowK_b (w:=w) (uI _) W D _ _ (by simp at hD;omega) hK rfl rfl)⟩
 case stop=>
  rintro D c pre W _ _ h _;exact h.elim
end Go.Proofs.YtjjbhjnpeenbkaaGreatDoor
namespace Go.Proofs.YtjjbhjnpeenbkaaGreatDoor
open Go Go.Proofs Go.RowKit Go.Shelf Go.Sort
attribute [local go_sem] Oper.semAt_some
set_option maxRecDepth 100000 in
theorem K0 (n:Nat)(hn:4<=n)(Bs ob:Nat)(sv:Value)(zs:List Int)(hlen:zs.length<=maxLen)(hbytes:zs.length*8<=140737488351232)(w:World)
  (hBs:Bs<w.heap.size)(hc:w.cell? ⟨Bs,ob,none⟩=some sv)(hI:mT w.heap.size w sv zs):
  CallsIn Fence.wide n Tryz.prog 218 #[.func (.func 220) #[] #[.pointer (some ⟨Bs,ob,none⟩)]] w λ e W'=>∃v,e= .returned v/\W'.ownsRow w.heap.size 3 1 v zs.length (zs.map (Value.int .i64))/\(v= .slice none 0 0↔zs=[])/\Below w.heap.size w W':=by
 have h1:1<=n:=xA;have hF:Fence.wide.fn 248:=trivial;refine callsIn_of_wp Tryz.func218 rfl trivial ?_ rfl;simp only[Tryz.ntmps218,zA,uV,uU,Nat.reduceAdd,Nat.reduceSub,Ae,Af,Be,zT,gB,gK]
 gi_wp2_with (gi_at_call 248;refine(JJ Fence.wide (n-1) trivial trivial rfl xA Bs ob sv zs hlen hbytes w hBs hc hI).mono ?_;rintro e w' ⟨v,rfl,hrow,hnil,hb⟩)
 go_ret
 exact⟨v,rfl,hrow,hnil,hb⟩
set_option maxRecDepth 100000 in
theorem SN (n:Nat)(hn:5<=n)(Bs ob:Nat)(sv:Value)(zs:List Int)(hlen:zs.length<=maxLen)(hbytes:zs.length*8<=140737488351232)(w:World)
  (hBs:Bs<w.heap.size)(hc:w.cell? ⟨Bs,ob,none⟩=some sv)(hI:mT w.heap.size w sv zs):
  CallsIn Fence.wide n Tryz.prog 175 #[.func (.func 220) #[] #[.pointer (some ⟨Bs,ob,none⟩)]] w λ e W'=>∃v,e= .returned v/\W'.ownsRow w.heap.size 3 1 v zs.length ((bh zs).map (Value.int .i64))/\Below w.heap.size w W':=by
 have h1:1<=n:=xA;have hF1:Fence.wide.fn 218:=trivial;have hF2:Fence.wide.fn 219:=trivial;refine callsIn_of_wp Tryz.func175 rfl trivial ?_ rfl;simp only[Tryz.ntmps175,zA,uV,uU,Nat.reduceAdd,Nat.reduceSub,Ae,Af,Be,zT,gB,gK]
 gi_wp2_with (gi_at_call 218;refine(K0 (n-1) xA Bs ob sv zs hlen hbytes w hBs hc hI).mono ?_;rintro e W ⟨v,rfl,hrow,hnil,hb⟩)
 rcases hrow.2 with⟨rfl,hz⟩|⟨gb,cap,cur,rfl,hbase,hgb,r1,r2,r3,r4⟩
 ·have hss:zs=[]:=qT hz;subst hss
  gi_wp2_with (gi_at_call 219;refine(callsIn_wide.2 (Any.slices_Sort_int_none Tryz.laysSort none 0 W)).mono ?_;rintro e w' ⟨rfl,rfl⟩)
  go_ret
  exact⟨.slice none 0 0,rfl,by simpa[bh]using hrow,hb⟩
 ·have hH:Holds (Value.int .i64) W gb 0 zs.toArray:=holds_of_blockI hgb (by simpa using r4);have hgl:gb<W.heap.size:=(gM.1 hgb).1;have hsz:zs.length<4611686018427387904:=xA;have cS:=Any.slices_Sort_int Tryz.laysSort gb 0 cap zs W hH hgl hsz
  gi_wp2_with (gi_at_call 219;refine(callsIn_wide.2 cS).mono ?_;rintro e w' ⟨rfl,nn,os,rfl⟩)
  go_ret
  exact⟨_,rfl,ownsRow_sortedI xB hbase hgb r1 r2 r3,hb.grown (grownBy_sortedI _) hb.size (λ j hj=>by cases hj;exact hbase)⟩
end Go.Proofs.YtjjbhjnpeenbkaaGreatDoor
namespace Go.Proofs.YtjjbhjnpeenbkaaGreatDoor
open Go Go.PS Go.Proofs
set_option maxRecDepth 100000
theorem MR {w:World}{X:Nat->Prop}{l:List Int}{v:Value}(h:D.At w X (aj l) v):mT w.heap.size w v l:=by
 generalize hd:aj l=d at h;cases h with
 |sc=>cases hd
 |ag=>cases hd
 |tup=>cases hd
 |pt=>cases hd
 |fn=>cases hd
 |slnil base cap=>
  simp only[aj,D.sl.injEq,List.map_eq_nil_iff]at hd;exact .inl ⟨base,cap,rfl,hd⟩
 |sl L b off cap sz hl hc hsz vals hv hat=>
  simp only[aj,D.sl.injEq]at hd;subst hd;rcases qO l.length with h0|h0
  ·have:l=[]:=gQ.1 h0;subst this;exact .inl ⟨_,cap,rfl,rfl⟩
  ·have hs1:sz=1:=by
    have:=hsz (D.int l[0]) (uR.2 ⟨l[0],kJ h0,rfl⟩);simpa[D.cells]using this.symm
   subst hs1;have key:∀j,j<l.length->w.cell? ⟨b,off+j,none⟩=some (.int .i64 (l[j]?.getD 0)):=by
    intro j hj;have hi:(l.map D.int)[j]? =some (D.int l[j]):=by rw[uJ,uT hj];rfl
    have h1:=hv j _ 0 (D.int l[j]) hi rfl;have h2:=hat j _ 0 (D.int l[j]) hi rfl;rw[kS,gX]at h1;generalize vals j 0=x at h1 h2;cases h2;rw[h1.1,uT hj];rfl
   refine .inr ⟨b,off,cap,by rw[uC],?_,key⟩;have:=key 0 h0;rw[gX]at this;exact re this
theorem vf (l:List Int)(hl:l.length*8<=140737488351232):ah Tryz.prog 175 [.fn 220 [.pt [aj l]]] (aj (bh l)):=by
 refine⟨⟨_,Tryz.func175,rfl,by decide+kernel⟩,λ w X vs hX hat _=>?_⟩;obtain⟨hsz,hat⟩:=hat;obtain⟨v,rfl⟩:∃v,vs=#[v]:=by
  have:vs.size=1:=hsz;refine⟨vs[0],Array.ext (by simp[this]) λ i h1 h2=>?_⟩;have:i=0:=by simp at h2;omega
  subst this;rfl
 have hv:=hat 0 _ v rfl rfl;cases hv with
 |fn _ _ arr hasz harr=>
  obtain⟨x,rfl⟩:∃x,arr=#[x]:=by
   have:arr.size=1:=hasz;refine⟨arr[0],Array.ext (by simp[this]) λ i h1 h2=>?_⟩;have:i=0:=by simp at h2;omega
   subst this;rfl
  have hx:=harr 0 _ x rfl rfl;cases hx with
  |pt _ b off vals hpv hpat=>
   have h1:=hpv 0 _ rfl;have h2:=hpat 0 _ rfl;rw[gX]at h1;have hI:=MR h2;refine(callsIn_wide.1 (SN 5 xA b off (vals 0) l (by simp only[maxLen];omega) xA w (re h1.1) h1.1 hI)).mono ?_;rintro e w' ⟨v,rfl,hrow,hb⟩;refine⟨v,rfl,?_,hb⟩;obtain⟨hlen,hrow⟩:=hrow;rcases hrow with⟨rfl,hz⟩|⟨g,cap,cur,rfl,hbase,hgb,r1,r2,r3,r4⟩
   ·have hss:l=[]:=qT hz;subst hss;rw[show aj (bh [])= .sl [] by simp[bh]];exact .slnil _ _
   ·have hcell:∀i z,(bh l)[i]? =some z->w'.cell? ⟨g,i,none⟩=some (.int .i64 z):=by
     intro i z hz;have hil:=(uB.1 hz).1;rw[us]at hil;have h3:=gL (λ t:List Value=>t[i]?) r4;simp only[uJ,hz,qB]at h3;rw[jN xA,qY]at h3;rw[fE hgb];exact h3
    have hlen2:(intsL (bh l)).length=l.length:=by rw[uC,us]
    rw[<-hlen2];refine .sl _ g 0 cap 1 (by rw[hlen2];exact r1) r2 (λ d hd=>by obtain⟨z,_,rfl⟩:=uR.1 hd;rfl) (λ i _=> .int .i64 (((bh l)[i]?).getD 0)) (λ i d j c hi hj=>?_) (λ i d j c hi hj=>?_)
    ·rw[uJ]at hi;cases hz:(bh l)[i]? with
     |none=>rw[hz]at hi;cases hi
     |some z=>
      rw[hz]at hi;simp only[qB,yM]at hi;subst hi;cases j with
      |succ j=>simp[D.cells]at hj
      |zero=>exact⟨by rw[kS,gX,yU];exact hcell i z hz,rfl,λ hx=>by have:=hX g hx;omega⟩
    ·rw[uJ]at hi;cases hz:(bh l)[i]? with
     |none=>rw[hz]at hi;cases hi
     |some z=>
      rw[hz]at hi;simp only[qB,yM]at hi;subst hi;cases j with
      |succ j=>simp[D.cells]at hj
      |zero=>
       simp only[D.cells,Cc,yM]at hj;subst hj;exact .sc _ rfl
theorem vg (l:List Int):ah Tryz.prog 176 [aj l] (.fn 220 [.pt [aj l]]):=by
 refine kE Tryz.func176 ?_;intro hat B X w0;refine ac kO aa aa ?_;rfl
end Go.Proofs.YtjjbhjnpeenbkaaGreatDoor
namespace Go.Proofs.YtjjbhjnpeenbkaaGreatDoor
open Go Go.PS Go.Proofs
set_option maxRecDepth 100000
attribute [local irreducible] ao wpG ah ax
def at0 (r:List Int)(v:Int):Int:=(r[v.toNat]?).getD 0
theorem fP {r:List Int}{v:Int}(Z:0<=v)(Y:v<r.length):r[v.toNat]? =some (at0 r v):=by
 obtain⟨x,h⟩:=ak (show v.toNat<r.length by omega);rw[at0,h];rfl
theorem aK {r:List Int}{i:Nat}(h:i<r.length):r[i]? =some (at0 r i):=by
 obtain⟨x,Z⟩:=ak h;rw[at0,uK,Z];rfl
def eS (l:List Int):Nat->Int
 |0=>at0 l 0
 |k+1=>max (eS l k) (at0 l ((k+1:Nat):Int))
theorem pP (l:List Int):∀(k j:Nat),j<=k->at0 l j<=eS l k
 |0,j,h=>by rw[show j=0 by omega];exact qR _
 |k+1,j,h=>by
  rw[eS];rcases uD j (k+1)with Z|Z
  ·have:=pP l k j xA;omega
  ·rw[show j=k+1 by omega];omega
theorem tI {l:List Int}{m:Int}(h:∀j:Nat,at0 l j<=m):∀k,eS l k<=m
 |0=>h 0
 |k+1=>by rw[eS];have:=tI h k;have:=h (k+1);omega
theorem lR (a b:Int):(if a<b then b else a)=max a b:=xA
theorem Ji (l:List Int)(S:0<l.length):ah Tryz.prog 102 [aj l] (.int (eS l (l.length-1))):=by
 refine kE Tryz.func102 ?_;intro h B X Q;have Z:=bI 0 h rfl;rw[uC]at Z;have V:=aK S;refine ac kO (ae V) aa ?_;refine aq (λ(k:Nat)=>k+1<=l.length) (λ k=>[(0, .d (aj l)),(3, .int (eS l k)),(4, .int ((k:Int)+1))]) (λ k=>[]) (λ k=>l.length-k) 0 ?_ ?_ ?_
 ·omega
 ·exact kN (ae @eS.eq_1) []
 ·intro k R;rcases uD (k+1) l.length with Y|T
  ·have U:=aK Y;have e:(((k:Int)+1)).toNat=k+1:=xA;refine ac kO (av U e @lR) aa ?_;refine⟨k+1,?_,kN (av @eS.eq_1 @qQ @gN) [],?_⟩
   ·omega
   ·omega
  ·refine ac kO aa aa ?_;have:l.length-1=k:=xA;rw[this];rfl
abbrev Lv :=Int×List (List Int)×List Arc×List (List Int)
abbrev lvD (v:Lv):D:= .ag [.int v.1,am v.2.1,aw v.2.2.1,am v.2.2.2]
def lv0 :Lv:=(0,[],[],[])
def bY (all:List Int)(k:Nat):List Int:=((List.range all.length).filter λ v=>decide (all[v]? =some (k:Int))).map λ v:Nat=>(v:Int)
theorem wS (all:List Int)(x:Int)(k:Nat):bY (all++[x]) k=if x=k then bY all k++[(all.length:Int)]else bY all k:=by
 rw[bY,uH,yO,qE,gO,uO];have e:(List.range all.length).filter (λ v=>decide ((all++[x])[v]? =some (k:Int)))=(List.range all.length).filter λ v=>decide (all[v]? =some (k:Int)):=by
  refine List.filter_congr λ v Z=>?_
  rw[qZ (yD.1 Z)]
 rw[e];by_cases h:x=k
 ·rw[if_pos h];simp[bY,h]
 ·rw[if_neg h];simp[bY,h]
theorem rH (all:List Int)(k:Nat):(bY all k).length<=all.length:=by
 rw[bY,uC];exact gY (jA _ _) xB
def bc (r:List Int)(a:Arc):Nat:=(at0 r a.2-at0 r a.1-1).toNat
def aJ (r:List Int)(a:Arc)(i:Nat):List Int:=(List.range i).map λ j:Nat=>at0 r a.1+1+j
theorem xp (r:List Int)(a:Arc)(i:Nat):aJ r a (i+1)=aJ r a i++[at0 r a.1+1+i]:=by simp[aJ,qE]
theorem nC (r:List Int)(a:Arc)(i:Nat):(aJ r a i).length=i:=by simp[aJ]
def aX (r:List Int)(l:List Arc)(e:Nat):List Int:=r++(l.take e).flatMap λ a=>aJ r a (bc r a)
theorem o8 {r:List Int}{l:List Arc}{e:Nat}{a:Arc}(h:l[e]? =some a):aX r l (e+1)=aX r l e++aJ r a (bc r a):=by
 simp[aX,aM h]
def eH (Z:Nat)(a:Arc)(i:Nat):List Int:=a.1::(List.range i).map λ j:Nat=>((Z+j:Nat):Int)
theorem C1 (Z:Nat)(a:Arc)(i:Nat):eH Z a (i+1)=eH Z a i++[((Z+i:Nat):Int)]:=by simp[eH,qE]
theorem ot (Z:Nat)(a:Arc)(i:Nat):(eH Z a i).length=i+1:=by simp[eH]
def ba (r:List Int)(Z:Nat)(a:Arc):List Int:=eH Z a (bc r a)++[a.2]
theorem vK (r:List Int)(Z:Nat)(a:Arc):(ba r Z a).length=bc r a+2:=by simp[ba,ot]
def nG (c:List Int)(j:Nat):Arc:=(at0 c j,at0 c ((j+1:Nat):Int))
def dF (c:List Int)(j:Nat):List Arc:=(List.range j).map (nG c)
theorem F9 (c:List Int)(j:Nat):dF c (j+1)=dF c j++[nG c j]:=by simp[dF,qE]
theorem xM (c:List Int)(j:Nat):(dF c j).length=j:=by simp[dF]
def rf (r:List Int)(l:List Arc)(e:Nat):List (List Int):=match l[e]? with
 |some a=>[ba r (aX r l e).length a]
 |none=>[]
def ci (r:List Int)(l:List Arc)(e:Nat):List (List Int):=b8 (rf r l) e
def pi (r:List Int)(l:List Arc)(e:Nat):List Arc:=match l[e]? with
 |some a=>dF (ba r (aX r l e).length a) (bc r a+1)
 |none=>[]
def bK (r:List Int)(l:List Arc)(e:Nat):List Arc:=b8 (pi r l) e
def ki (g:Gr)(r:List Int):Lv:=
 (g.1,if g.1=0 then[]else(List.range (eS r (r.length-1)+1).toNat).map λ k=>bY (aX r g.2 g.2.length) k,bK r g.2 g.2.length,ci r g.2 g.2.length)
def cf (r:List Int)(l:List Arc):Nat->Int
 |0=>0
 |k+1=>cf r l k+match l[k]? with|some a=>at0 r a.2-at0 r a.1-1|none=>0
def ff (r:List Int)(a:Arc):Bool:=decide (at0 r a.2-at0 r a.1-1<0)
def iC (g:Gr)(r:List Int):Bool:=gOk g&&decide ((r.length:Int)=g.1)&& !r.any fI
def aO (g:Gr)(r:List Int):Lv×Int:=
 if iC g r=false then(lv0,1)else if g.2.any g8 then(lv0,8)else if g.2.any (ff r)then(lv0,3)
 else if 512<g.1+cf r g.2 g.2.length then(lv0,2)else(ki g r,0)
end Go.Proofs.YtjjbhjnpeenbkaaGreatDoor
