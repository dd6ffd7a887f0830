/- Options; the skeleton of a graph. -/
import Derived.Test.YtjjbhjnpeenbkaaGreatDoorGrA
import Derived.Test.YtjjbhjnpeenbkaaGreatDoorA
import Derived.Test.YtjjbhjnpeenbkaaGreatDoorCyA
import Derived.Test.YtjjbhjnpeenbkaaGreatDoorSxZ
import Derived.Test.YtjjbhjnpeenbkaaGreatDoorSxL
import Derived.Test.YtjjbhjnpeenbkaaGreatDoorG
import Derived.Test.YtjjbhjnpeenbkaaGreatDoorOrB
import Derived.Test.YtjjbhjnpeenbkaaGreatDoorSp
import Derived.Test.YtjjbhjnpeenbkaaGreatDoorPSCy2
import Derived.Lay
import Derived.Test.YtjjbhjnpeenbkaaGreatDoorOrF
import Derived.Test.YtjjbhjnpeenbkaaGreatDoorAlA
set_option linter.unusedSimpArgs false
set_option linter.unusedVariables false
set_option maxHeartbeats 16000000
namespace Go.Proofs.YtjjbhjnpeenbkaaGreatDoor.Gr
open Go Go.PS Go.Proofs Go.Proofs.YtjjbhjnpeenbkaaGreatDoor
set_option maxRecDepth 100000
attribute [local irreducible] ao wpG ah ax
structure Opt where
 md:Int
 nsep:Int
 rsep:Int
 mg:Int
 rd:Int
abbrev cv (o:Opt):D:= .ag [.int o.md, .int o.nsep, .int o.rsep, .int o.mg, .int o.rd]
def lG (m x:Int):Bool:=decide (0<=x)&&decide (x<=m)
def okO (o:Opt):Bool:=lG 4 o.md&&(lG 1048576 o.nsep&&(lG 1048576 o.rsep&&(lG 1048576 o.mg&&(lG 100 o.rd))))
theorem rg (m x:Int)(h:0<=m):decide (x=if m<(if x<0 then 0 else x)then m else(if x<0 then 0 else x))=lG m x:=by
 rw[qW];simp only[lG,uG,uN];split<;>split<;>omega
theorem FZ (o:Opt):ah Tryz.prog 46 [cv o] (.bool (okO o)):=by
 have Z:=rg 4 o.md xC;have Y:=rg 1048576 o.nsep xC;have V:=rg 1048576 o.rsep xC;have U:=rg 1048576 o.mg xC;have T:=rg 100 o.rd xC;refine kE Tryz.func46 ?_;intro h B X S;refine ac kO (aQ Z Y V U T) aa ?_;exact ay (by simp only[okO,Bool.and_true])
def nZ (g:Gph):Gr:=((g.ns.length:Int),g.es.map λ e=>(e.fr,e.to))
def fA (g:Gph)(k:Nat):List Arc:=(g.es.take k).map λ e=>(e.fr,e.to)
theorem Ip {g:Gph}{k:Nat}{e:Ed}(h:g.es[k]? =some e):fA g (k+1)=fA g k++[(e.fr,e.to)]:=by
 rw[fA,fA,aM h,uO];rfl
theorem Im (g:Gph):fA g g.es.length=(nZ g).2:=by rw[fA,yE,nZ]
theorem Io (g:Gph){k:Nat}(h:k<=g.es.length):(fA g k).length=k:=by rw[fA,uC,yA];omega
theorem SC (g:Gph)(Q:g.es.length<=1000000):ah Tryz.prog 95 [a7 g] (gD (nZ g)):=by
 refine kE Tryz.func95 ?_;intro U B X O;refine ac kO aa aa ?_;refine aC _ (dm 3 1 901 2 rfl rfl rfl) ?_;refine aq (λ(k:Nat)=>k<=g.es.length) (λ k=>[(2, .ptr 2 0 0 0),(3, .ptr 3 0 0 0),(11, .d (.sl (g.es.map edD))),(12, .int g.es.length),(13, .int k)]) (λ k=>[(2, .cells [.int 0, .nilS]),(3, .cells [.int g.ns.length, .ref 901 2 0 (fA g k).length (fA g k).length]),(901, .row 2 ((fA g k).map bo))]) (λ k=>g.es.length-k) 0 ?_ ?_ ?_
 ·exact uF _
 ·exact kN aa []
 ·intro k S;have h:=Io g S;rcases uD k g.es.length with Z|T
  ·obtain⟨e,V⟩:=ak Z;have R:=Ip V;have Y:((fA g k).map bo).take k=(fA g k).map bo:=uE (by simp[h]);refine ac kO (av V Y h) aa ?_;refine⟨k+1,?_,eL [(901,25)] _ _ (by refine⟨?_,?_⟩<;>(repeat' first|exact fmn|refine fmc ⟨(by first|rfl|(simp(disch:=omega) only[go_sem,simprocAttr,inL,R,uH,yO,uO,uS,uY,h];first|done|omega|(congr 1;done))),?_⟩);done),?_⟩
   ·exact Z
   ·omega
  ·obtain rfl:k=g.es.length:=xA;refine ac kO aa aa ?_;refine⟨_,_,_,_,rfl,?_⟩;simp(disch:=omega) only[go_sem,simprocAttr];rw[Im,aA];rfl
open Go.Cy (NA InN cq bN)
def naF (g:Gph):List NA:=g.es.map λ e=>(e.fr.toNat,e.to.toNat)
def cp (g:Gph):List NA:=bN (naF g) (cq g.ns.length (naF g))
theorem lE (g:Gph):(cp g).length=g.es.length:=by rw[cp,Go.Cy.flipN_len,naF,uC]
structure cu (g:Gph):Prop where
 md:Mod g
 ok:ee g=0
 n8:g.ns.length<=8
theorem jx {g:Gph}(h:ee g=0):g.es.length<=256/\fe (lq g) g.ns.length=0/\fe (k5 g) g.es.length=0:=by
 rw[ee]at h;split at h
 ·cases h
 ·split at h
  ·cases h
  ·split at h
   ·contradiction
   ·rename_i Z;split at h
    ·contradiction
    ·exact⟨xA,xA,h⟩
theorem ro {g:Gph}(h:ee g=0){k:Nat}{e:Ed}(Y:g.es[k]? =some e):0<=e.fr/\e.fr<g.ns.length/\0<=e.to/\e.to<g.ns.length/\1<=e.wt/\e.wt<=1000/\1<=e.ln/\e.ln<=64:=by
 have Z:=wi (jx h).2.2 k (uB.1 Y).1;rw[k5,Y]at Z;dsimp only at Z;rw[lK]at Z;split at Z
 ·cases Z
 ·split at Z
  ·contradiction
  ·split at Z
   ·cases Z
   ·omega
theorem HT {g:Gph}(h:ee g=0):nZ g=((g.ns.length:Int),Cyc.castA (naF g)):=by
 rw[nZ,Cyc.castA,naF,gU]
 congr 1
 refine yK λ e Z=>?_
 obtain⟨k,Y⟩:=qC.1 Z;obtain⟨X,_,V,_⟩:=ro h Y;simp only[Function.comp];rw[show((e.fr.toNat:Nat):Int)=e.fr by omega,show((e.to.toNat:Nat):Int)=e.to by omega]
theorem rO {g:Gph}(h:ee g=0):InN g.ns.length (naF g):=by
 intro a Z;obtain⟨e,Y,rfl⟩:=uR.1 Z;obtain⟨k,X⟩:=qC.1 Y;obtain⟨V,U,T,S,_⟩:=ro h X;dsimp only;omega
theorem HU {g:Gph}(h:cu g):gOk ((g.ns.length:Int),Cyc.castA (naF g))=true:=by
 have X:=(jx h.ok).1;have V:=h.n8;simp only[gOk,uN,uG,yL,qH];refine⟨⟨xA,xA,by rw[Cyc.castA_len,naF,uC];omega⟩,?_⟩;intro a Z;obtain⟨b,Y,rfl⟩:=uR.1 Z;have:=rO h.ok b Y;simp[j3];omega
theorem Kp {g:Gph}(h:ee g=0):InN g.ns.length (cp g):=by
 intro a Z;obtain⟨k,b,Y,rfl⟩:=Go.Cy.flipN_mem Z;have:=rO h b (uA Y);split
 ·dsimp only;omega
 ·exact this
theorem Ko {g:Gph}(Z:cu g):∃s:D,ah Tryz.prog 94 [gD (nZ g)] (.tup [s,gD ((g.ns.length:Int),Cyc.castA (cp g))]):=by
 have h:=Cyc.Break8 g.ns.length (naF g) (HU Z) (rO Z.ok) (by rw[naF,uC];exact(jx Z.ok).1) Z.n8;rw[HT Z.ok];exact⟨_,h⟩
def hO (l:List NA)(i:Nat):Bool:=match l[i]? with
 |some a=>decide (a.1≠a.2)
 |none=>false
def bl (l:List NA)(k:Nat):List Nat:=(List.range k).filter (hO l)
def pg (l:List NA)(i:Nat):Arc:=match l[i]? with
 |some a=>((a.1:Int),(a.2:Int))
 |none=>(0,0)
def bP (l:List NA)(k:Nat):List Arc:=(bl l k).map (pg l)
def bE (l:List NA)(k:Nat):List Int:=(bl l k).map λ(i:Nat)=>(i:Int)
theorem ni {l:List NA}{k:Nat}:bl l (k+1)=bl l k++if hO l k then[k]else[]:=by
 rw[bl,bl,qE,gO];cases h:hO l k<;>simp[h]
theorem nh (l:List NA)(k:Nat):(bl l k).length<=k:=by
 have:=jA (hO l) (List.range k);rw[kB]at this;exact this
theorem oC {l:List NA}{k i:Nat}(h:i∈bl l k):i<k/\hO l i=true:=by
 rw[bl,Ay,yD]at h;exact h
abbrev Gs (n:Nat)(l:List NA):D:= .ag [.int n,aw (bP l l.length),aj (bE l l.length)]
theorem BT {g:Gph}(O:cu g):ah Tryz.prog 47 [a7 g] (Gs g.ns.length (cp g)):=by
 obtain⟨R,_,_⟩:=jx O.ok;have N:=SC g xA;obtain⟨s,M⟩:=Ko O;have K:=lE g;generalize cp g=l at*;have h:(Cyc.castA l).length=l.length:=Cyc.castA_len l;refine kE Tryz.func47 ?_;intro L B X E;refine ac kO (ae h) (ai N M) ?_;refine aC _ (dm 5 1 901 2 rfl rfl rfl) ?_;refine aC _ (dm 5 2 902 1 rfl rfl rfl) ?_;refine aq (λ(k:Nat)=>k<=l.length) (λ k=>[(2, .ptr 2 0 0 0),(5, .ptr 5 0 0 0),(20, .d (aw (Cyc.castA l))),(21, .int l.length),(22, .int k)]) (λ k=>[(2, .cells [.int 0, .nilS, .nilS]),(5, .cells [.int g.ns.length, .ref 901 2 0 (bP l k).length (bP l k).length, .ref 902 1 0 (bE l k).length (bE l k).length]),(901, .row 2 ((bP l k).map bo)),(902, .row 1 ((bE l k).map D.int))]) (λ k=>l.length-k) 0 ?_ ?_ ?_
 ·exact uF _
 ·exact eL [] _ _ (by refine⟨?_,?_⟩<;>(repeat' first|exact fmn|refine fmc ⟨(by first|rfl|(simp(disch:=omega) only[go_sem,simprocAttr,inL,bP,bE,bl,jX,kV,uY,uU];first|done|omega|(congr 1;done))),?_⟩);done)
 ·intro k F;have G:=nh l k;have I:(bP l k).length<=256:=by rw[bP,uC];omega
  have H:(bE l k).length<=256:=by rw[bE,uC];omega
  rcases uD k l.length with Z|J
  ·obtain⟨a,V⟩:=ak Z;have Q:(Cyc.castA l)[k]? =some ((a.1:Int),(a.2:Int)):=Cyc.castA_get V;by_cases c:a.1=a.2
   ·have U:(a.1:Int)=a.2:=xA;have Y:hO l k=false:=by rw[hO,V];simp[c]
    have T:bP l (k+1)=bP l k:=by rw[bP,bP,ni,Y];simp
    have S:bE l (k+1)=bE l k:=by rw[bE,bE,ni,Y];simp
    refine ac kO (av Q h @U) aa ?_;refine⟨k+1,?_,kN (ai T S) [],?_⟩
    ·exact Z
    ·omega
   ·have U:¬(a.1:Int)=a.2:=xA;have Y:hO l k=true:=by rw[hO,V];simp[c]
    have T:bP l (k+1)=bP l k++[((a.1:Int),(a.2:Int))]:=by rw[bP,bP,ni,Y];simp[pg,V]
    have S:bE l (k+1)=bE l k++[(k:Int)]:=by rw[bE,bE,ni,Y];simp
    refine ac kO (aE Q h @U @aA) aa ?_;refine⟨k+1,?_,kN (bV T S @uH.{0} @yO.{0} @uO.{0,0} @uS.{0,0} @uY.{0,0}) [(901,37),(902,44)],?_⟩
    ·exact Z
    ·omega
  ·obtain rfl:k=l.length:=xA;refine ac kO aa aa ?_;refine⟨_,_,_,_,rfl,?_⟩;simp(disch:=omega) only[go_sem,simprocAttr];rw[aA,aA]
def pj (g:Gph)(l:List NA)(i:Nat):Sx.Bd:=match l[i]?,g.es[i]? with
 |some a,some e=>((a.1:Int),(a.2:Int),e.ln,e.wt)
 |_,_=>(0,0,0,0)
def de (g:Gph)(l:List NA)(k:Nat):List Sx.Bd:=((bl l l.length).take k).map (pj g l)
def cL (g:Gph):Sx.Net:=((g.ns.length:Int),de g (cp g) (bl (cp g) (cp g).length).length)
theorem pm {g:Gph}{l:List NA}{k:Nat}(h:k<=(bl l l.length).length):(de g l k).length=k:=by
 rw[de,uC,yA];omega
theorem GV {g:Gph}(A:cu g){r f:List Int}(Y:Sx.SolveOk (cL g) r f):ah Tryz.prog 48 [Gs g.ns.length (cp g),a7 g] (.tup [aj r,aj f, .int 0]):=by
 obtain⟨z,N,T,Z,Y⟩:=Y;obtain⟨L,_,_⟩:=jx A.ok;have G:=lE g;simp only[cL]at N Z Y;generalize cp g=l at*;have C:=nh l l.length;have O:=pm (g:=g) (l:=l) (uI _);rw[O]at Z Y;obtain rfl:z=g.ns.length:=xA;have U:(bP l l.length).length=(bl l l.length).length:=by rw[bP,uC]
 have Q:(bE l l.length).length=(bl l l.length).length:=by rw[bE,uC]
 refine kE Tryz.func48 ?_;intro H B X w0;refine ac kO (ae U) aa ?_;refine aC _ (dm 7 1 901 4 rfl rfl rfl) ?_;refine aq (λ(k:Nat)=>k<=(bl l l.length).length) (λ k=>[(2, .ptr 2 0 0 0),(3, .ptr 3 0 0 0),(7, .ptr 7 0 0 0),(17, .d (aw (bP l l.length))),(18, .int (bl l l.length).length),(19, .int k)]) (λ k=>[(2, .cells [.int g.ns.length, .d (aw (bP l l.length)), .d (aj (bE l l.length))]),(3, .cells [.d (bi g.nm), .d (.bool g.dir), .d (.sl (g.ns.map ndD)), .d (.sl (g.es.map edD)), .d (.sl (g.cs.map clD))]),(7, .cells [.int g.ns.length, .ref 901 4 0 (de g l k).length (de g l k).length]),(901, .row 4 ((de g l k).map Sx.bdD))]) (λ k=>(bl l l.length).length-k) 0 ?_ ?_ ?_
 ·exact uF _
 ·exact kN (aE @de.eq_1 @yQ.{0} @uY.{0,0} @uU.{0}) []
 ·intro k E;have h:=pm (g:=g) E;rcases uD k (bl l l.length).length with V|F
  ·obtain⟨i,R⟩:=ak V;obtain⟨b,q2⟩:=oC (uA R);obtain⟨a,K⟩:=ak b;obtain⟨e,J⟩:=ak (l:=g.es) (k:=i) xA;have s:(bP l l.length)[k]? =some ((a.1:Int),(a.2:Int)):=by rw[bP,uJ,R];simp[pg,K]
   have q:(bE l l.length)[k]? =some (i:Int):=by rw[bE,uJ,R];rfl
   have I:de g l (k+1)=de g l k++[((a.1:Int),(a.2:Int),e.ln,e.wt)]:=by
    rw[de,de,aM R,uO];simp[pj,K,J]
   have M:((de g l k).map Sx.bdD).take k=(de g l k).map Sx.bdD:=uE (by simp[h]);refine ac kO (bV s q J U Q h M) aa ?_;refine⟨k+1,?_,kN (bV I @uH.{0} @yO.{0} @uO.{0,0} @uS.{0,0} @uY.{0,0} h) [(901,45)],?_⟩
   ·exact V
   ·omega
  ·obtain rfl:k=(bl l l.length).length:=xA;refine aC _ (fo 901 4 ((de g l (bl l l.length).length).map Sx.bdD) rfl (fa _ rfl) xC) ?_;have S:((de g l (bl l l.length).length).map Sx.bdD).take (bl l l.length).length=(de g l (bl l l.length).length).map Sx.bdD:=uE (by simp[h]);refine ac kO (av S @qD.{0} h) (ae (dM [(2000,950),(2001,951)] Y)) ?_;exact⟨_,rfl,bZ (o:=950) rfl rfl (by simp[Sx.intsL,T]) (by rw[uE (by simp[Sx.intsL,T])]),bZ (o:=951) rfl rfl (by simp[Sx.intsL,Z]) (by rw[uE (by simp[Sx.intsL,Z])]),ap rfl,trivial⟩
theorem HA (a b:List Int):ah Tryz.prog 31 [aj a,aj b] (.bool (decide (a=b))):=by
 refine kE Tryz.func31 ?_;intro R B X M;have O:=bI 0 R rfl;rw[uC]at O;by_cases S:a.length=b.length
 ·have Z:(a.length:Int)=b.length:=xA;refine ac kO (ae @Z) aa ?_;refine aq (λ(k:Nat)=>k<=a.length/\a.take k=b.take k) (λ k=>[(0, .d (aj a)),(1, .d (aj b)),(5, .int k)]) (λ k=>[]) (λ k=>a.length-k) 0 ?_ ?_ ?_
  ·exact⟨uF _,rfl⟩
  ·exact kN aa []
  ·rintro k ⟨N,Y⟩;rcases uD k a.length with V|Q
   ·obtain⟨x,U⟩:=ak V;obtain⟨y,T⟩:=ak (l:=b) (k:=k) xA;by_cases c:x=y
    ·subst c;refine ac kO (ai U T) aa ?_;refine⟨k+1,?_,kN aa [],?_⟩
     ·exact⟨V,by rw[aM U,aM T,Y]⟩
     ·omega
    ·refine ac kO (av U T c) aa ?_;exact ay (by rw[uW (mP U T c)])
   ·refine ac kO aa aa ?_;refine ay ?_;rw[uE Q,uE xA]at Y;rw[uZ Y]
 ·have Z:¬(a.length:Int)=b.length:=xA;refine ac kO (ae @Z) aa ?_;exact ay (by rw[uW (λ h=>S (by rw[h]))])
def fC (m:Nat)(Z:List Nat)(f:List Int):Nat->List Int
 |0=>List.replicate m 0
 |k+1=>(fC m Z f k).set (Z[k]?.getD 0) (f[k]?.getD 0)
theorem BM (m:Nat)(Y:List Nat)(f:List Int):∀k,(fC m Y f k).length=m:=by
 intro k
 induction k with
 |zero=>simp[fC]
 |succ k Z=>rw[fC,yJ,Z]
def o7 (g:Gph)(f:List Int):List Int:=fC g.es.length (bl (cp g) (cp g).length) f (bl (cp g) (cp g).length).length
theorem Jq {g:Gph}(U:cu g){r f:List Int}(Q:Sx.SolveOk (cL g) r f):ah Tryz.prog 29 [a7 g] (.tup [aj r,aj (o7 g f), .int 0]):=by
 have S:=tv g U.md;rw[U.ok]at S;have M:=BT U;have L:=GV U Q;obtain⟨z,G,F,Y,_⟩:=Q;obtain⟨R,_,_⟩:=jx U.ok;have J:=lE g;rw[o7];simp only[cL]at Y;rw[pm (uI _)]at Y;generalize cp g=l at*;have H:=nh l l.length;have Z:(bE l l.length).length=(bl l l.length).length:=by rw[bE,uC]
 refine kE Tryz.func29 ?_;intro K B X b;refine ac kO (ae Z) (av S M L) ?_;refine aq (λ(k:Nat)=>k<=(bl l l.length).length) (λ k=>[(7, .d (aj r)),(8, .d (aj f)),(10, .ref 33 1 0 g.es.length g.es.length),(35, .d (aj (bE l l.length))),(36, .int (bl l l.length).length),(37, .int k)]) (λ k=>[(33, .row 1 ((fC g.es.length (bl l l.length) f k).map D.int))]) (λ k=>(bl l l.length).length-k) 0 ?_ ?_ ?_
 ·exact uF _
 ·exact kN (ai @fC.eq_1 @yT.{0,0}) []
 ·intro k A;have h:=BM g.es.length (bl l l.length) f k;rcases uD k (bl l l.length).length with V|I
  ·obtain⟨i,T⟩:=ak V;obtain⟨x,O⟩:=ak (l:=f) (k:=k) xA;obtain⟨q,s⟩:=oC (uA T);have C:(bE l l.length)[k]? =some (i:Int):=by rw[bE,uJ,T];rfl
   obtain⟨y,E⟩:=ak (l:=fC g.es.length (bl l l.length) f k) (k:=i) xA;have N:fC g.es.length (bl l l.length) f (k+1)=(fC g.es.length (bl l l.length) f k).set i x:=by rw[fC,T,O];rfl
   refine ac kO (aQ C Z O E h) aa ?_;refine⟨k+1,?_,kN (ai N @yW.{0,0}) [],?_⟩
   ·exact V
   ·omega
  ·obtain rfl:k=(bl l l.length).length:=xA;refine ac kO aa aa ?_;exact⟨_,rfl,rfl,bZ (o:=33) rfl rfl (by simp[h]) (by rw[uE (by simp[h])]),ap rfl,trivial⟩
abbrev we (c:UInt8):Nd:=⟨⟨#[c]⟩,⟨#[97]⟩,20000,10000,-1,[]⟩
abbrev D3 (t:Int):Ed:=⟨0,t,-1,-1,⟨#[]⟩,1,1⟩
abbrev gk :Gph:=⟨⟨#[103]⟩,true,[we 97,we 98,we 99],[D3 1,D3 2],[]⟩
theorem LH :Mod gk:=by
 refine⟨xC,λ n Z=>?_,λ e h=>?_,λ c Y=>by cases Y⟩
 ·simp only[yI,gV,Cp]at Z;rcases Z with rfl|rfl|rfl<;>exact⟨xC,xC,λ p X=>by cases X⟩
 ·simp only[yI,gV,Cp]at h;rcases h with rfl|rfl<;>decide
theorem LJ :ee gk=0:=by decide+kernel
theorem D4 :cu gk:=⟨LH,LJ,xC⟩
theorem wh :cp gk=[(0,1),(0,2)]:=by decide+kernel
theorem LI :cL gk=(3,[(0,1,1,1),(0,2,1,1)]):=by rw[cL,wh];decide+kernel
theorem D5 :Sx.SolveOk (cL gk) [0,1,1] [1,1]:=by
 rw[LI];exact Sx.solve_of 3 _ 10 _ _ (by decide+kernel) (by decide+kernel) (by decide+kernel) (by decide+kernel) (by decide+kernel) (by decide+kernel)
theorem LK :ah Tryz.prog 29 [a7 gk] (.tup [aj [0,1,1],aj [1,1], .int 0]):=by
 have h:=Jq D4 D5;rw[show o7 gk [1,1]=[1,1] by rw[o7,wh];decide+kernel]at h;exact h
end Go.Proofs.YtjjbhjnpeenbkaaGreatDoor.Gr
namespace Go.Proofs.YtjjbhjnpeenbkaaGreatDoor.Gr
open Go Go.PS Go.Proofs Go.Proofs.YtjjbhjnpeenbkaaGreatDoor
set_option maxRecDepth 100000
attribute [local irreducible] ao wpG ah ax
theorem o9 {Z:Type}{q:Z->Bool}{l:List Z}{k:Nat}{x:Z}(h:l[k]? =some x)(Y:q x=false):l.all q=false:=by
 rw[Ci];exact⟨x,uA h,by rw[Y];decide⟩
theorem sX {Y:Type}{q:Y->Bool}{l:List Y}{k:Nat}(V:l.length<=k)(h:∀(j:Nat) y,j<k->l[j]? =some y->q y=true):l.all q=true:=by
 rw[yF];intro x X;obtain⟨j,Z⟩:=qC.1 X;exact h j x (by have:=(uB.1 Z).1;omega) Z
def ptF (p:Pt):Bool:=decide (p.nm.size<=40)
def ndF (n:Nd):Bool:=decide (n.nm.size<=40/\n.lb.size<=80/\n.ps.length<=9)&&n.ps.all ptF
def edF (e:Ed):Bool:=decide (e.lb.size<=80/\e.ln<=4)
def clF (c:Cl):Bool:=decide (c.nm.size<=40)
def lM (g:Gph)(n m:Nat):Bool:=decide (g.ns.length<=n/\g.es.length<=m/\g.cs.length<=6/\g.nm.size<=40)&&(g.ns.all ndF&&(g.es.all edF&&g.cs.all clF))
theorem D8 (g:Gph)(n m:Nat)(hn:n<=100)(hm:m<=100):ah Tryz.prog 11 [a7 g, .int n, .int m] (.bool (lM g n m)):=by
 by_cases H:g.ns.length<=n/\g.es.length<=m/\g.cs.length<=6/\g.nm.size<=40
 ·obtain⟨C,A,z,s⟩:=H;rw[lM,uZ ⟨C,A,z,s⟩,jZ];have b:¬(n:Int)<g.ns.length:=xA;have q:¬(m:Int)<g.es.length:=xA;have b3:¬(6:Int)<g.cs.length:=xA;have b4:¬(40:Int)<g.nm.size:=xA;refine kE Tryz.func11 ?_;intro J B X w0;refine ac kO (aE b q b3 b4) aa ?_;refine aq (λ(k:Nat)=>k<=g.ns.length/\∀(j:Nat) y,j<k->g.ns[j]? =some y->ndF y=true) (λ k=>[(3, .ptr 3 0 0 0),(7, .int k)]) (λ k=>[(3, .cells [.d (bi g.nm), .d (.bool g.dir), .d (.sl (g.ns.map ndD)), .d (.sl (g.es.map edD)), .d (.sl (g.cs.map clD))])]) (λ k=>g.ns.length-k) 0 ?_ ?_ ?_
  ·exact⟨uF _,λ j y h=>xA⟩
  ·exact kN aa []
  ·rintro k ⟨hk,R⟩;rcases uD k g.ns.length with N|I
   ·obtain⟨x,M⟩:=ak N;by_cases G:x.nm.size<=40/\x.lb.size<=80/\x.ps.length<=9
    ·obtain⟨d1,d2,d3⟩:=G;have f1:¬(40:Int)<x.nm.size:=xA;have f2:¬(80:Int)<x.lb.size:=xA;have f3:¬(9:Int)<x.ps.length:=xA;have T:ndF x=x.ps.all ptF:=by rw[ndF,uZ ⟨d1,d2,d3⟩,jZ]
     refine ac kO (aE M f1 f2 f3) aa ?_;refine aq (λ(j:Nat)=>j<=x.ps.length/\∀(i:Nat) y,i<j->x.ps[i]? =some y->ptF y=true) (λ j=>[(3, .ptr 3 0 0 0),(7, .int k),(8, .ptr 8 0 0 0),(9, .int j)]) (λ j=>[(3, .cells [.d (bi g.nm), .d (.bool g.dir), .d (.sl (g.ns.map ndD)), .d (.sl (g.es.map edD)), .d (.sl (g.cs.map clD))]),(8, .cells [.d (bi x.nm), .d (bi x.lb), .int x.w, .int x.h, .int x.cl, .d (.sl (x.ps.map ptD))])]) (λ j=>x.ps.length-j) 0 ?_ ?_ ?_
     ·exact⟨uF _,λ j y h=>xA⟩
     ·exact kN aa []
     ·rintro j ⟨E,Y⟩;rcases uD j x.ps.length with Z|U
      ·obtain⟨p,L⟩:=ak Z;by_cases S:p.nm.size<=40
       ·have V:¬(40:Int)<p.nm.size:=xA;refine ac kO (ai L V) aa ?_;refine⟨j+1,?_,kN aa [],?_⟩
        ·exact⟨Z,b9 Y L (uZ S)⟩
        ·omega
       ·have V:(40:Int)<p.nm.size:=xA;refine ac kO (ai L V) aa ?_;exact ay (by rw[o9 M (by rw[T];exact o9 L (uW S))];rfl)
      ·refine ac kO aa aa ?_;refine⟨k+1,?_,kN aa [],?_⟩
       ·exact⟨N,b9 R M (by rw[T];exact sX U Y)⟩
       ·omega
    ·have T:ndF x=false:=by rw[ndF,uW G];rfl
     refine kw kO (ae M) aa ?_
     repeat' first|exact True.intro|refine Bn.mk ?_ ?_|intro Q
     all_goals first|(refine ay ?_;rw[o9 M T];rfl)|(exfalso;omega)
   ·refine ac kO aa aa ?_;refine aq (λ(j:Nat)=>j<=g.es.length/\∀(i:Nat) y,i<j->g.es[i]? =some y->edF y=true) (λ j=>[(3, .ptr 3 0 0 0),(10, .int j)]) (λ j=>[(3, .cells [.d (bi g.nm), .d (.bool g.dir), .d (.sl (g.ns.map ndD)), .d (.sl (g.es.map edD)), .d (.sl (g.cs.map clD))])]) (λ j=>g.es.length-j) 0 ?_ ?_ ?_
    ·exact⟨uF _,λ j y h=>xA⟩
    ·exact kN aa []
    ·rintro j ⟨E,Y⟩;rw[sX I R,jZ];rcases uD j g.es.length with Z|U
     ·obtain⟨e,O⟩:=ak Z;by_cases S:e.lb.size<=80
      ·have V:¬(80:Int)<e.lb.size:=xA;by_cases F:e.ln<=4
       ·have K:¬(4:Int)<e.ln:=xA;refine ac kO (av O V K) aa ?_;refine⟨j+1,?_,kN aa [],?_⟩
        ·exact⟨Z,b9 Y O (uZ ⟨S,F⟩)⟩
        ·omega
       ·have K:(4:Int)<e.ln:=xA;refine ac kO (av O V K) aa ?_;exact ay (by rw[o9 O (uW (λ h=>F h.2))];rfl)
      ·have V:(80:Int)<e.lb.size:=xA;refine ac kO (ai O V) aa ?_;exact ay (by rw[o9 O (uW (λ h=>S h.1))];rfl)
     ·rw[sX U Y,jZ];refine ac kO aa aa ?_;refine aq (λ(j:Nat)=>j<=g.cs.length/\∀(i:Nat) y,i<j->g.cs[i]? =some y->clF y=true) (λ j=>[(3, .ptr 3 0 0 0),(11, .int j)]) (λ j=>[(3, .cells [.d (bi g.nm), .d (.bool g.dir), .d (.sl (g.ns.map ndD)), .d (.sl (g.es.map edD)), .d (.sl (g.cs.map clD))])]) (λ j=>g.cs.length-j) 0 ?_ ?_ ?_
      ·exact⟨uF _,λ j y h=>xA⟩
      ·exact kN aa []
      ·rintro j ⟨E,Y⟩;rcases uD j g.cs.length with Z|U
       ·obtain⟨c,Q⟩:=ak Z;by_cases S:c.nm.size<=40
        ·have V:¬(40:Int)<c.nm.size:=xA;refine ac kO (ai Q V) aa ?_;refine⟨j+1,?_,kN aa [],?_⟩
         ·exact⟨Z,b9 Y Q (uZ S)⟩
         ·omega
        ·have V:(40:Int)<c.nm.size:=xA;refine ac kO (ai Q V) aa ?_;exact ay (by rw[o9 Q (uW S)])
       ·refine ac kO aa aa ?_;exact ay (by rw[sX U Y])
 ·rw[lM,uW H,Ao];refine kE Tryz.func11 ?_;intro J B X w0;refine kw kO aa aa ?_
  repeat' first|exact True.intro|refine Bn.mk ?_ ?_|intro Q
  all_goals first|exact ay rfl|(exfalso;omega)
theorem wj {g:Gph}{n m:Nat}(h:lM g n m=true):g.ns.length<=n/\g.es.length<=m/\Mod g/\∀e∈g.es,e.ln<=4:=by
 simp only[lM,uN,uG,yF]at h;obtain⟨⟨V,U,K,J⟩,T,Y,S⟩:=h;refine⟨V,U,⟨xA,λ x O=>?_,λ e Z=>?_,λ c R=>?_⟩,λ e Z=>?_⟩
 ·have:=T x O;simp only[ndF,uN,uG,yF]at this;obtain⟨⟨N,M,L⟩,X⟩:=this;exact⟨xA,xA,λ p Q=>by have:=X p Q;rw[ptF,uG]at this;omega⟩
 ·have:=Y e Z;rw[edF,uG]at this;omega
 ·have:=S c R;rw[clF,uG]at this;omega
 ·have:=Y e Z;rw[edF,uG]at this;omega
open Go.Cy (NA InN cq bN)
def pGr (g:Gph):Gr:=((g.ns.length:Int),bP (cp g) (cp g).length)
def lV (g:Gph)(o:Opt)(r:List Int):Lv×Int×Int:=if(aO (pGr g) r).2=0 then jj (aO (pGr g) r).1 o.rd else(lv0,0,2)
theorem tU {g:Gph}:(pGr g).2.length<=g.es.length:=by
 have:=nh (cp g) (cp g).length;rw[pGr,bP,uC];have:=lE g;omega
theorem Od (r:List Int)(a:Arc)(k:Int):∀n,((aJ r a n).filter λ x=>decide (some x=some k)).length<=if at0 r a.1+1+n<=k then 0 else 1:=by
 intro n
 induction n with
 |zero=>simp[aJ]
 |succ n Z=>
  rw[xp,gO,uH];have h:([at0 r a.1+1+(n:Int)].filter λ x=>decide (some x=some k)).length=if at0 r a.1+1+(n:Int)=k then 1 else 0:=by
   by_cases c:at0 r a.1+1+(n:Int)=k<;>simp[c]
  rw[h];split at Z<;>split<;>split<;>omega
theorem M4 {r:List Int}{l:List Arc}{k:Int}:∀e,e<=l.length->((aX r l e).filter λ x=>decide (some x=some k)).length<=r.length+e:=by
 intro e
 induction e with
 |zero=>
  intro _;have:=jA (λ x=>decide (some x=some k)) r;simpa[aX]using this
 |succ e X=>
  intro h;obtain⟨a,Y⟩:=ak (show e<l.length by omega);rw[o8 Y,gO,uH];have V:=X xA;have Z:=Od r a k (bc r a);split at Z<;>omega
theorem rH (all:List Int)(k:Nat):(bY all k).length=(all.filter λ x=>decide (some x=some (k:Int))).length:=by
 have e:(List.range all.length).map (λ v=>all[v]?)=all.map some:=by
  refine yX λ i=>?_
  rw[uJ,uJ];rcases uD i all.length with h|h
  ·obtain⟨x,Z⟩:=ak h;rw[yZ h,Z];show some (all[i]?)=_;rw[Z];rfl
  ·rw[uL (by simpa using h),uL h];rfl
 have:=gL (λ l=>(l.filter λ o=>decide (o=some (k:Int))).length) e;rw[List.filter_map,List.filter_map,uC,uC]at this;rw[bY,uC];exact this
theorem Kq {g:Gr}{r:List Int}(h:(aO g r).2=0)(S:g.1+g.2.length<=19):wide (aO g r).1/\(aO g r).1.2.2.1.length<=700:=by
 have b:=built h;have U:=sW b.gap g.2.length (uI _);have T:=s6 b.gap g.2.length (uI _);have X:=b.big;have V:=b.len;rw[b.eq];dsimp only;refine⟨λ y Z=>?_,?_⟩
 ·rw[w6,dq]at Z;obtain⟨k,_,rfl⟩:=uR.1 Z;have Y:=M4 (r:=r) (l:=g.2) (k:=(k:Int)) _ (uI _);rw[<-rH]at Y;omega
 ·show(bK r g.2 g.2.length).length<=700;omega
theorem vG {g:Gph}{r:List Int}(h:(aO (pGr g) r).2=0)(X:g.ns.length<=8)(V:g.es.length<=11):wide (aO (pGr g) r).1/\(aO (pGr g) r).1.2.2.1.length<=700:=Kq h (by
 have Z:=tU (g:=g);have Y:(pGr g).1=g.ns.length:=rfl;omega)
theorem AJ {g:Gph}(o:Opt)(V:Mod g)(h:ee g≠0):ah Tryz.prog 13 [a7 g,cv o] (.tup [lvD lv0, .int 0, .int (ee g)]):=by
 have Z:=tv g V;refine kE Tryz.func13 ?_;intro Y B X U;refine ac kO (ae h) (ae Z) ?_;refine⟨_,rfl,⟨_,_,_,_,rfl,?_⟩,ap ?_,ap ?_,trivial⟩
 ·simp(disch:=omega) only[go_sem,simprocAttr];rfl
 ·rfl
 ·rfl
theorem AK {g:Gph}{o:Opt}(U:Mod g)(h:ee g=0)(T:okO o=false):ah Tryz.prog 13 [a7 g,cv o] (.tup [lvD lv0, .int 0, .int 7]):=by
 have Z:=tv g U;rw[h]at Z;have Y:=FZ o;rw[T]at Y;refine kE Tryz.func13 ?_;intro V B X S;refine ac kO aa (ai Z Y) ?_;refine⟨_,rfl,⟨_,_,_,_,rfl,?_⟩,ap ?_,ap ?_,trivial⟩
 ·simp(disch:=omega) only[go_sem,simprocAttr];rfl
 ·rfl
 ·rfl
theorem vc {g:Gph}{o:Opt}(Z:cu g)(hl:g.es.length<=11)(I:okO o=true){r f:List Int}(J:Sx.SolveOk (cL g) r f):
  ah Tryz.prog 13 [a7 g,cv o] (.tup [lvD (lV g o r).1, .int (lV g o r).2.1, .int (lV g o r).2.2]):=by
 have V:=tv g Z.md;rw[Z.ok]at V;have U:=FZ o;rw[I]at U;have S:=BT Z;have Q:=GV Z J;have Y:ah Tryz.prog 49 [.ag [.int g.ns.length,aw (bP (cp g) (cp g).length)],aj r] (.tup [lvD (aO (pGr g) r).1, .int (aO (pGr g) r).2]):=AG (pGr g) r;have H:=tU (g:=g);rw[lV];by_cases h:(aO (pGr g) r).2=0
 ·rw[if_pos h];obtain⟨q,E⟩:=vG h Z.n8 xA;have K:=Ot (aO (pGr g) r).1 o.rd q E;rw[h]at Y;generalize(aO (pGr g) r).1=b at*;generalize jj b o.rd=R at*;obtain⟨n,G,O,M⟩:=b;obtain⟨⟨n',F,N,L⟩,A,z⟩:=R;refine kE Tryz.func13 ?_;intro T B X C;refine ac kO aa (bq V U S Q Y K) ?_;refine⟨_,rfl,⟨_,_,_,_,rfl,?_⟩,ap ?_,ap ?_,trivial⟩
  ·simp(disch:=omega) only[go_sem,simprocAttr]
  ·rfl
  ·rfl
 ·rw[if_neg h];generalize aO (pGr g) r=b at*;obtain⟨⟨n,G,O,M⟩,s⟩:=b;dsimp only at h Y;refine kE Tryz.func13 ?_;intro T B X C;refine ac kO (ae h) (aQ V U S Q Y) ?_;refine⟨_,rfl,⟨_,_,_,_,rfl,?_⟩,ap ?_,ap ?_,trivial⟩
  ·simp(disch:=omega) only[go_sem,simprocAttr];rfl
  ·rfl
  ·rfl
end Go.Proofs.YtjjbhjnpeenbkaaGreatDoor.Gr
namespace Go.Proofs.YtjjbhjnpeenbkaaGreatDoor.Gr
open Go Go.PS Go.Proofs Go.Proofs.YtjjbhjnpeenbkaaGreatDoor
set_option maxRecDepth 100000
theorem pw {n:Nat}{cs:List D}(h:dc Tryz.prog (n+1) 9 cs):∃s:ByteArray,cs=[bi s]:=by
 have Z:Tryz.prog.underlying 9=some .string:=xD;simp only[dc,Z]at h;exact h
theorem KE {n:Nat}{cs:List D}(h:dc Tryz.prog (n+1) 4 cs):∃b:Bool,cs=[.bool b]:=by
 have Z:Tryz.prog.underlying 4=some .bool:=xD;simp only[dc,Z]at h;exact h
theorem KI {n:Nat}{cs:List D}(h:dc Tryz.prog (n+3) 64 cs):∃l:List Pt,cs=[.sl (l.map ptD)]:=by
 obtain⟨l,rfl,U⟩:=te (e:=92) xD h;obtain⟨T,rfl⟩:=rJ (f:=ptD) (l:=l) (λ d X=>by
  obtain⟨S,rfl,_,V⟩:=U d X;obtain⟨_,_,rfl,Z,_,_,rfl,Y,rfl⟩:=pz (ts:=[9,3]) xD V;obtain⟨a,rfl⟩:=pw Z;obtain⟨b,rfl⟩:=fR Y;rw[Tz];exact⟨⟨a,b⟩,rfl⟩)
 exact⟨T,rfl⟩
theorem KH {n:Nat}{cs:List D}(h:dc Tryz.prog (n+5) 22 cs):∃l:List Nd,cs=[.sl (l.map ndD)]:=by
 obtain⟨l,rfl,Q⟩:=te (e:=66) xD h;obtain⟨O,rfl⟩:=rJ (f:=ndD) (l:=l) (λ d S=>by
  obtain⟨N,rfl,_,R⟩:=Q d S;obtain⟨_,_,rfl,Z,_,_,rfl,Y,_,_,rfl,X,_,_,rfl,V,_,_,rfl,U,_,_,rfl,T,rfl⟩:=pz (ts:=[9,9,3,3,3,64]) xD R;obtain⟨a,rfl⟩:=pw Z;obtain⟨b,rfl⟩:=pw Y;obtain⟨c,rfl⟩:=fR X;obtain⟨d,rfl⟩:=fR V;obtain⟨e,rfl⟩:=fR U;obtain⟨f,rfl⟩:=KI T;rw[Ty];exact⟨⟨a,b,c,d,e,f⟩,rfl⟩)
 exact⟨O,rfl⟩
theorem KG {n:Nat}{cs:List D}(h:dc Tryz.prog (n+3) 23 cs):∃l:List Ed,cs=[.sl (l.map edD)]:=by
 obtain⟨l,rfl,O⟩:=te (e:=61) xD h;obtain⟨N,rfl⟩:=rJ (f:=edD) (l:=l) (λ d R=>by
  obtain⟨M,rfl,_,Q⟩:=O d R;obtain⟨_,_,rfl,Z,_,_,rfl,Y,_,_,rfl,X,_,_,rfl,V,_,_,rfl,U,_,_,rfl,T,_,_,rfl,S,rfl⟩:=pz (ts:=[3,3,3,3,9,3,3]) xD Q;obtain⟨a,rfl⟩:=fR Z;obtain⟨b,rfl⟩:=fR Y;obtain⟨c,rfl⟩:=fR X;obtain⟨d,rfl⟩:=fR V;obtain⟨e,rfl⟩:=pw U;obtain⟨f,rfl⟩:=fR T;obtain⟨g,rfl⟩:=fR S;rw[Tw];exact⟨⟨a,b,c,d,e,f,g⟩,rfl⟩)
 exact⟨N,rfl⟩
theorem KF {n:Nat}{cs:List D}(h:dc Tryz.prog (n+3) 24 cs):∃l:List Cl,cs=[.sl (l.map clD)]:=by
 obtain⟨l,rfl,U⟩:=te (e:=94) xD h;obtain⟨T,rfl⟩:=rJ (f:=clD) (l:=l) (λ d X=>by
  obtain⟨S,rfl,_,V⟩:=U d X;obtain⟨_,_,rfl,Z,_,_,rfl,Y,rfl⟩:=pz (ts:=[9,3]) xD V;obtain⟨a,rfl⟩:=pw Z;obtain⟨b,rfl⟩:=fR Y;rw[TA];exact⟨⟨a,b⟩,rfl⟩)
 exact⟨T,rfl⟩
theorem BU {x:D}(h:qr Tryz.prog 26 x):∃g:Gph,x=a7 g:=by
 obtain⟨T,h,rfl⟩:=h;obtain⟨_,_,rfl,Z,_,_,rfl,Y,_,_,rfl,X,_,_,rfl,V,_,_,rfl,U,rfl⟩:=pz (ts:=[9,4,22,23,24]) xD h;obtain⟨a,rfl⟩:=pw Z;obtain⟨b,rfl⟩:=KE Y;obtain⟨c,rfl⟩:=KH X;obtain⟨d,rfl⟩:=KG V;obtain⟨e,rfl⟩:=KF U;rw[Tu];exact⟨⟨a,b,c,d,e⟩,rfl⟩
theorem BV {x:D}(h:qr Tryz.prog 28 x):∃o:Opt,x=cv o:=by
 obtain⟨T,h,rfl⟩:=h;obtain⟨_,_,rfl,Z,_,_,rfl,Y,_,_,rfl,X,_,_,rfl,V,_,_,rfl,U,rfl⟩:=pz (ts:=[3,3,3,3,3]) xD h;obtain⟨a,rfl⟩:=fR Z;obtain⟨b,rfl⟩:=fR Y;obtain⟨c,rfl⟩:=fR X;obtain⟨d,rfl⟩:=fR V;obtain⟨e,rfl⟩:=fR U;rw[Tv];exact⟨⟨a,b,c,d,e⟩,rfl⟩
open Go.Cy (NA InN cq bN)
attribute [local irreducible] ao wpG ah ax
theorem nB {g:Gph}(h:cu g):Sx.nOk (cL g)=true:=by
 have S:=lE g;have X:=Kp h.ok;have V:=(jx h.ok).1;have O:=h.n8;rw[cL];generalize cp g=l at*;have Q:=nh l l.length;have Y:=pm (g:=g) (l:=l) (uI _);simp only[Sx.nOk,uN,uG,yL,qH];refine⟨⟨xA,xA,by rw[Y];omega⟩,λ b U=>?_⟩;rw[de,uE (uI _)]at U;obtain⟨i,R,rfl⟩:=uR.1 U;obtain⟨q,N⟩:=oC R;obtain⟨a,Z⟩:=ak q;obtain⟨e,T⟩:=ak (l:=g.es) (k:=i) xA;rw[hO,Z,uG]at N;have M:=X a (uA Z);have L:=ro h.ok T;rw[pj,Z,T];simp[Sx.bdIn];omega
end Go.Proofs.YtjjbhjnpeenbkaaGreatDoor.Gr
namespace Go.Proofs.YtjjbhjnpeenbkaaGreatDoor.Gr
open Go Go.PS Go.Proofs Go.Proofs.YtjjbhjnpeenbkaaGreatDoor Go.Proofs.YtjjbhjnpeenbkaaGreatDoor.Al
set_option maxRecDepth 100000
attribute [local irreducible] ao wpG ah ax
theorem DS (b:Lv):∀k,(dV b k).1=b.1
 |0=>rfl
 |k+1=>DS b k
theorem IK (b:Lv)(n:Nat):∀k,(upB b n k).1=b.1
 |0=>rfl
 |k+1=>IK b n k
theorem Tg (b:Lv):(swB b).1=b.1:=(IK _ _ _).trans (DS _ _)
theorem FU (a:Lv):∀k,(c9 a k).1=a.1
 |0=>rfl
 |k+1=>(Tg _).trans (FU a k)
theorem vF (a:Lv):∀k,(bQ a k).1=a.1
 |0=>rfl
 |k+1=>by
  rw[bQ];split
  ·exact FU a (k+1)
  ·exact vF a k
theorem GX :∀(f:Nat) (b:Lv) (i:Nat),(cU f b i).1=b.1:=by
 intro f
 induction f with
 |zero=>intro b i;rfl
 |succ f Z=>
  intro b i;rw[cU];split
  ·split
   ·exact(Z _ _).trans rfl
   ·exact Z _ _
  ·rfl
def cg (g:Gph):List Int:=g.ns.map (·.w)
theorem Qo (g:Gph)(M:g.ns.length<=1000):ah Tryz.prog 16 [a7 g] (aj (cg g)):=by
 obtain⟨Y,Z⟩:∃Y:Nat->List Int,∀k,Y k=(g.ns.take k).map (·.w):=⟨_,λ _=>rfl⟩;have U:∀k,k<=g.ns.length->(Y k).length=k:=λ k h=>by rw[Z,uC,yA];omega
 refine kE Tryz.func16 ?_;intro R B X L;refine ac kO aa aa ?_;refine aC _ (dg 3 901 1 rfl rfl) ?_;refine aq (λ(k:Nat)=>k<=g.ns.length) (λ k=>[(1, .ptr 1 0 0 0),(3, .ref 901 1 0 (Y k).length (Y k).length),(4, .int k)]) (λ k=>[(1, .cells [.d (bi g.nm), .d (.bool g.dir), .d (.sl (g.ns.map ndD)), .d (.sl (g.es.map edD)), .d (.sl (g.cs.map clD))]),(901, .row 1 ((Y k).map D.int))]) (λ k=>g.ns.length-k) 0 ?_ ?_ ?_
 ·exact uF _
 ·rw[show Y 0=[] by rw[Z];rfl];exact kN aa []
 ·intro k O;have N:=U k O;rcases uD k g.ns.length with V|Q
  ·obtain⟨x,T⟩:=ak V;have S:Y (k+1)=Y k++[x.w]:=by rw[Z,Z,aM T,uO];rfl
   refine ac kO (ai T @aA) aa ?_;refine⟨k+1,?_,kN (bq S @uH.{0} @yO.{0} @uO.{0,0} @uS.{0,0} @uY.{0,0}) [(901,20)],?_⟩
   ·exact V
   ·omega
  ·obtain rfl:k=g.ns.length:=xA;refine ac kO aa aa ?_;exact bZ (o:=901) rfl rfl xB (by rw[uE xB,Z,yE];rfl)
theorem FP {g:Gph}(h:ee g=0){k:Nat}{n:Nd}(Y:g.ns[k]? =some n):1<=n.w/\n.w<=1048576/\1<=n.h/\n.h<=1048576:=by
 have Z:=wi (jx h).2.1 k (uB.1 Y).1;rw[xr Y]at Z;split at Z
 ·cases Z
 ·split at Z
  ·cases Z
  ·split at Z
   ·contradiction
   ·split at Z
    ·cases Z
    ·rename_i T;have X:ic n.w=true:=by cases U:ic n.w<;>simp_all
     have V:ic n.h=true:=by cases U:ic n.h<;>simp_all
     simp only[ic,uN,uG]at X V;omega
theorem FX {o:Opt}(h:okO o=true):(0<=o.nsep/\o.nsep<=1048576)/\0<=o.rsep/\o.rsep<=1048576:=by
 simp only[okO,lG,uN,uG]at h;omega
theorem OX {g:Gph}{o:Opt}{r:List Int}(U:cu g)(V:okO o=true)(h:(aO (pGr g) r).2=0)(T:aH (dt (bQ (aO (pGr g) r).1 o.rd.toNat))=true):
  VA (dt (bQ (aO (pGr g) r).1 o.rd.toNat)) (cg g) o.nsep:=by
 refine VA.of ?_;have R:=FX V;have X:(dt (bQ (aO (pGr g) r).1 o.rd.toNat)).1=g.ns.length:=by
  rw[dt,GX,vF,(built h).eq];rfl
 rw[eU,T,X,szB,uZ (by rw[cg,uC]),uZ xA,show(cg g).any (λ w=> !szB w)=false from ?_]
 ·rfl
 ·rw[qH];intro w S;obtain⟨n,Y,rfl⟩:=uR.1 S;obtain⟨k,Z⟩:=qC.1 Y;have:=FP U.ok Z;simp[szB];omega
def jd (g:Gph)(v:Int):Int:=match g.ns[v.toNat]? with
 |some n=>n.h
 |none=>0
theorem tw {g:Gph}{v:Nat}{n:Nd}(h:g.ns[v]? =some n):jd g v=n.h:=by rw[jd,uK,h]
def hN (g:Gph)(y:List Int):Nat->Int
 |0=>0
 |k+1=>match y[k]? with
  |some v=>if v<g.ns.length then(if hN g y k<jd g v then jd g v else hN g y k)else hN g y k
  |none=>hN g y k
def hL (g:Gph)(ls:List (List Int))(i:Nat):Int:=match ls[i]? with
 |some y=>hN g y y.length
 |none=>0
def bX (g:Gph)(ls:List (List Int))(sep:Int):Nat->Int
 |0=>0
 |k+1=>bX g ls sep k+(hL g ls k+sep)
def ef (g:Gph)(ls:List (List Int))(sep:Int)(k:Nat):List (Int×Int):=(List.range k).map λ i=>(bX g ls sep i,hL g ls i)
abbrev mX (p:Int×Int):D:= .ag [.int p.1, .int p.2]
theorem B7 (g:Gph)(ls:List (List Int))(sep:Int)(k:Nat):(ef g ls sep k).length=k:=by simp[ef]
def Low (g:Gph):Prop:=∀n∈g.ns,0<=n.h/\n.h<=1048576
theorem Mq {g:Gph}(h:Low g)(v:Int):0<=jd g v/\jd g v<=1048576:=by
 rw[jd];split
 ·rename_i n Z;exact h n (uA Z)
 ·decide
theorem Mm {g:Gph}(h:Low g)(y:List Int):∀k,0<=hN g y k/\hN g y k<=1048576:=by
 intro k
 induction k with
 |zero=>rw[hN];decide
 |succ k Z=>
  rw[hN];split
  ·rename_i v _;have:=Mq h v;split
   ·split
    ·exact this
    ·exact Z
   ·exact Z
  ·exact Z
theorem oA {g:Gph}(h:Low g)(ls:List (List Int))(i:Nat):0<=hL g ls i/\hL g ls i<=1048576:=by
 rw[hL];split
 ·exact Mm h _ _
 ·decide
theorem u1 {g:Gph}(h:Low g)(ls:List (List Int)){sep:Int}(Z:0<=sep/\sep<=1048576):∀k:Nat,0<=bX g ls sep k/\bX g ls sep k<=2097152*(k:Int):=by
 intro k
 induction k with
 |zero=>rw[bX];decide
 |succ k Y=>
  have:=oA h ls k;rw[bX];omega
theorem J3 (g:Gph)(ls:List (List Int))(R:List Arc)(cs:List (List Int))(sep:Int)(h:Low g)(F:0<=sep/\sep<=1048576)(hl:ls.length<=256)(E:∀y∈ls,y.length<=100000/\∀v∈y,0<=v):
  ah Tryz.prog 67 [a7 g, .ag [.int g.ns.length,am ls,aw R,am cs], .int sep] (.sl ((ef g ls sep ls.length).map mX)):=by
 refine kE Tryz.func67 ?_;intro I B X w0;refine ac kO aa aa ?_;refine aC _ (dg 7 901 2 rfl rfl) ?_;refine aq (λ(k:Nat)=>k<=ls.length) (λ k=>[(2, .int sep),(3, .ptr 3 0 0 0),(4, .ptr 4 0 0 0),(7, .ref 901 2 0 (ef g ls sep k).length (ef g ls sep k).length),(8, .int (bX g ls sep k)),(15, .d (am ls)),(16, .int ls.length),(17, .int k)]) (λ k=>[(3, .cells [.d (bi g.nm), .d (.bool g.dir), .d (.sl (g.ns.map ndD)), .d (.sl (g.es.map edD)), .d (.sl (g.cs.map clD))]),(4, .cells [.int g.ns.length, .d (am ls), .d (aw R), .d (am cs)]),(901, .row 2 ((ef g ls sep k).map mX))]) (λ k=>ls.length-k) 0 ?_ ?_ ?_
 ·exact uF _
 ·exact kN (aQ @ef.eq_1 @jX @uY.{0,0} @uU.{0} @bX.eq_1) []
 ·intro k b;have Y:=B7 g ls sep k;have ht:=u1 h ls F k;rcases uD k ls.length with U|H
  ·obtain⟨y,O⟩:=ak U;obtain⟨A,N⟩:=E y (uA O);have s:=oA h ls k;have K:hL g ls k=hN g y y.length:=by rw[hL,O]
   have J:bX g ls sep (k+1)=bX g ls sep k+(hL g ls k+sep):=rfl;have L:ef g ls sep (k+1)=ef g ls sep k++[(bX g ls sep k,hL g ls k)]:=by rw[ef,ef,qE,uO];rfl
   generalize z:bX g ls sep k=T at*;refine ac kO (ae O) aa ?_;refine aq (λ(j:Nat)=>j<=y.length) (λ j=>[(2, .int sep),(3, .ptr 3 0 0 0),(4, .ptr 4 0 0 0),(7, .ref 901 2 0 (ef g ls sep k).length (ef g ls sep k).length),(8, .int T),(11, .ptr 11 0 0 0),(15, .d (am ls)),(16, .int ls.length),(17, .int k),(23, .d (aj y)),(24, .int y.length),(25, .int j)]) (λ j=>[(3, .cells [.d (bi g.nm), .d (.bool g.dir), .d (.sl (g.ns.map ndD)), .d (.sl (g.es.map edD)), .d (.sl (g.cs.map clD))]),(4, .cells [.int g.ns.length, .d (am ls), .d (aw R), .d (am cs)]),(901, .row 2 ((ef g ls sep k).map mX)),(11, .cells [.int T, .int (hN g y j)])]) (λ j=>y.length-j) 0 ?_ ?_ ?_
   ·exact uF _
   ·exact kN (ae @hN.eq_1) []
   ·intro j q;rcases uD j y.length with V|G
    ·obtain⟨v,Z⟩:=ak V;have C:=N v (uA Z);obtain⟨v,rfl⟩:∃m:Nat,v=m:=⟨v.toNat,xA⟩;have S:hN g y (j+1)=if(v:Int)<g.ns.length then(if hN g y j<jd g v then jd g v else hN g y j)else hN g y j:=by rw[hN,Z]
     by_cases c:(v:Int)<g.ns.length
     ·obtain⟨n,M⟩:=ak (l:=g.ns) (k:=v) xA;rw[if_pos c,tw M]at S;refine ac kO (av Z c M) aa ?_;refine⟨j+1,?_,kN (ae S) [],?_⟩
      ·exact V
      ·omega
     ·rw[if_neg c]at S;refine ac kO (ai Z c) aa ?_;refine⟨j+1,?_,kN (ae S) [],?_⟩
      ·exact V
      ·omega
    ·obtain rfl:j=y.length:=xA;rw[<-K];have Q:((ef g ls sep k).map mX).take k=(ef g ls sep k).map mX:=uE (by simp[Y]);refine ac kO (ai Q Y) aa ?_;refine⟨k+1,?_,kN (bj J L @uH.{0} @yO.{0} @uO.{0,0} @uS.{0,0} @uY.{0,0} Y) [(901,47)],?_⟩
     ·exact U
     ·omega
  ·obtain rfl:k=ls.length:=xA;refine ac kO aa aa ?_;exact bZ (o:=901) rfl rfl xB (by rw[uE xB])
abbrev Bx :=Int×Int×Int×Int
abbrev bxD (b:Bx):D:= .ag [.int b.1, .int b.2.1, .int b.2.2.1, .int b.2.2.2]
def inC (n:Int):Bool:=decide (-268435456<=n)&&decide (n<=268435456)
def plB (g:Gph)(y:List Int)(b:Int×Int)(v:Int):Bx:=match g.ns[v.toNat]? with
 |some n=>(at0 y v-n.w/2,b.1+(b.2-n.h)/2,at0 y v-n.w/2+n.w,b.1+(b.2-n.h)/2+n.h)
 |none=>(0,0,0,0)
theorem xR {g:Gph}{y:List Int}{b:Int×Int}{v:Nat}{n:Nd}(h:g.ns[v]? =some n):plB g y b v=(at0 y v-n.w/2,b.1+(b.2-n.h)/2,at0 y v-n.w/2+n.w,b.1+(b.2-n.h)/2+n.h):=by rw[plB,uK,h]
abbrev PS3 :=List Bx×Int×Bool
def plS (g:Gph)(y:List Int)(b:Int×Int)(σ:PS3)(v:Int):PS3:=if v<g.ns.length then(σ.1.set v.toNat (plB g y b v),if σ.2.2=false\/(plB g y b v).1<σ.2.1 then(plB g y b v).1 else σ.2.1,true)else σ
def plI (g:Gph)(y:List Int)(b:Int×Int)(r:List Int)(σ:PS3):Nat->PS3
 |0=>σ
 |j+1=>match r[j]? with
  |some v=>plS g y b (plI g y b r σ j) v
  |none=>plI g y b r σ j
theorem Gi {g:Gph}{y:List Int}{b:Int×Int}{r:List Int}{σ:PS3}{j:Nat}{v:Int}(h:r[j]? =some v):plI g y b r σ (j+1)=plS g y b (plI g y b r σ j) v:=by rw[plI,h]
def plO (g:Gph)(y:List Int)(ls:List (List Int))(sep:Int):Nat->PS3
 |0=>(List.replicate g.ns.length (0,0,0,0),0,false)
 |k+1=>match ls[k]? with
  |some r=>plI g y (bX g ls sep k,hL g ls k) r (plO g y ls sep k) r.length
  |none=>plO g y ls sep k
theorem Gk {g:Gph}{y:List Int}{ls:List (List Int)}{sep:Int}{k:Nat}{r:List Int}(h:ls[k]? =some r):plO g y ls sep (k+1)=plI g y (bX g ls sep k,hL g ls k) r (plO g y ls sep k) r.length:=by rw[plO,h]
theorem Pm (g:Gph)(y:List Int)(b:Int×Int)(σ:PS3)(v:Int):(plS g y b σ v).1.length=σ.1.length:=by
 rw[plS];split
 ·exact yJ
 ·rfl
theorem xS (g:Gph)(y:List Int)(b:Int×Int)(r:List Int)(σ:PS3):∀j,(plI g y b r σ j).1.length=σ.1.length:=by
 intro j
 induction j with
 |zero=>rfl
 |succ j Z=>
  rw[plI];split
  ·rw[Pm,Z]
  ·exact Z
theorem tW (g:Gph)(y:List Int)(ls:List (List Int))(sep:Int):∀k,(plO g y ls sep k).1.length=g.ns.length:=by
 intro k
 induction k with
 |zero=>exact yH
 |succ k Z=>
  rw[plO];split
  ·rw[xS,Z]
  ·exact Z
def Mid (σ:PS3):Prop:=(∀b,b∈σ.1->(-68719476736<=b.1/\b.1<=68719476736)/\-68719476736<=b.2.2.1/\b.2.2.1<=68719476736)/\-68719476736<=σ.2.1/\σ.2.1<=68719476736
structure PlOk (g:Gph)(y:List Int)(ls:List (List Int)):Prop where
 nd:∀n,n∈g.ns->1<=n.w/\n.w<=1048576/\1<=n.h/\n.h<=1048576
 y0:∀v:Nat,0<=at0 y v/\at0 y v<=34359738368
 hl:ls.length<=256
 hv:∀r,r∈ls->r.length<=100000/\∀v,v∈r->0<=v/\v<y.length
theorem PlOk.low {g:Gph}{y:List Int}{ls:List (List Int)}(h:PlOk g y ls):Low g:=λ n Z=>by have:=h.nd n Z;omega
theorem Pe {g:Gph}{y:List Int}{ls:List (List Int)}(h:PlOk g y ls)(b:Int×Int)(v:Nat):(-68719476736<=(plB g y b v).1/\(plB g y b v).1<=68719476736)/\-68719476736<=(plB g y b v).2.2.1/\(plB g y b v).2.2.1<=68719476736:=by
 rw[plB,uK];split
 ·rename_i n Z;have:=h.nd n (uA Z);have:=h.y0 v;dsimp only;omega
 ·dsimp only;omega
theorem Pn {g:Gph}{y:List Int}{ls:List (List Int)}(h:PlOk g y ls)(b:Int×Int){σ:PS3}(Y:Mid σ)(v:Int)(X:0<=v):Mid (plS g y b σ v):=by
 obtain⟨v,rfl⟩:∃m:Nat,v=m:=⟨v.toNat,xA⟩;have:=Pe h b v;rw[plS];split
 ·refine⟨λ c Z=>?_,?_⟩
  ·rcases kL Z with Z|rfl
   ·exact Y.1 c Z
   ·exact this
  ·dsimp only;split
   ·exact this.1
   ·exact Y.2
 ·exact Y
theorem Gh {g:Gph}{y:List Int}{ls:List (List Int)}(h:PlOk g y ls)(b:Int×Int){r:List Int}(X:∀v,v∈r->0<=v){σ:PS3}(Y:Mid σ):∀j,Mid (plI g y b r σ j):=by
 intro j
 induction j with
 |zero=>exact Y
 |succ j Z=>
  rw[plI];split
  ·rename_i v V;exact Pn h b Z v (X v (uA V))
  ·exact Z
theorem Pj {g:Gph}{y:List Int}{ls:List (List Int)}(h:PlOk g y ls)(sep:Int):∀k,Mid (plO g y ls sep k):=by
 intro k
 induction k with
 |zero=>
  refine⟨λ b Z=>?_,show(-68719476736:Int)<=0/\(0:Int)<=68719476736 by decide⟩;rw[plO]at Z;rw[(List.mem_replicate.1 Z).2];decide
 |succ k Y=>
  rw[plO];split
  ·rename_i r X;exact Gh h _ (λ v V=>((h.hv r (uA X)).2 v V).1) Y _
  ·exact Y
def shB (m:Int)(b:Bx):Bx:=(b.1-m,b.2.1,b.2.2.1-m,b.2.2.2)
def okB (b:Bx):Bool:=(inC b.1&&inC b.2.1)&&((inC b.2.2.1&&inC b.2.2.2)&&(decide (b.1<=b.2.2.1)&&decide (b.2.1<=b.2.2.2)))
def shN (m:Int)(l:List Bx):Nat->List Bx
 |0=>l
 |k+1=>match l[k]? with
  |some b=>(shN m l k).set k (shB m b)
  |none=>shN m l k
theorem HM (m:Int)(l:List Bx):∀k,(shN m l k).length=l.length:=by
 intro k
 induction k with
 |zero=>rfl
 |succ k Z=>
  rw[shN];split
  ·rw[yJ,Z]
  ·exact Z
theorem HL (m:Int)(l:List Bx):∀k j,(shN m l k)[j]? =if j<k then l[j]?.map (shB m)else l[j]? :=by
 intro k
 induction k with
 |zero=>intro j;rfl
 |succ k Z=>
  intro j;rw[shN];split
  ·rename_i b h;by_cases c:j=k
   ·subst c;rw[jC (by rw[HM];exact(uB.1 h).1),if_pos xA,h];rfl
   ·rw[jT xA,Z];by_cases d:j<k
    ·rw[if_pos d,if_pos xA]
    ·rw[if_neg d,if_neg xA]
  ·rename_i h;rw[Z];by_cases c:j=k
   ·subst c;rw[if_neg xA,if_pos xA,h];rfl
   ·by_cases d:j<k
    ·rw[if_pos d,if_pos xA]
    ·rw[if_neg d,if_neg xA]
theorem RX (m:Int)(l:List Bx):shN m l l.length=l.map (shB m):=by
 refine yX λ j=>?_
 rw[HL,uJ];split
 ·rfl
 ·rw[uL xA];rfl
theorem GA (x y:Int):ah Tryz.prog 120 [.ag [.int x, .int y]] (.bool (inC x&&inC y)):=by
 refine kE Tryz.func120 ?_;intro h B X Y;refine kw kO aa aa ?_
 repeat' first|exact True.intro|refine Bn.mk ?_ ?_|intro Z
 all_goals
  refine ay ?_;rw[qW];simp[inC]
  try omega
theorem Ks (b:Bx):ah Tryz.prog 68 [bxD b] (.bool (okB b)):=by
 have h:=GA b.1 b.2.1;have Y:=GA b.2.2.1 b.2.2.2;refine kE Tryz.func68 ?_;intro U B X S;rcases Z:(inC b.1&&inC b.2.1)with _|_<;>rw[Z]at h
 ·refine ac kO aa (ai h Y) ?_;exact ay (by rw[okB,Z];rfl)
 ·rcases V:(inC b.2.2.1&&inC b.2.2.2)with _|_<;>rw[V]at Y
  ·refine ac kO aa (ai h Y) ?_;exact ay (by rw[okB,Z,V];rfl)
  ·refine kw kO aa (ai h Y) ?_
   repeat' first|exact True.intro|refine Bn.mk ?_ ?_|intro T
   all_goals
    refine ay ?_;rw[okB,Z,V,qW];simp
    try omega
end Go.Proofs.YtjjbhjnpeenbkaaGreatDoor.Gr
