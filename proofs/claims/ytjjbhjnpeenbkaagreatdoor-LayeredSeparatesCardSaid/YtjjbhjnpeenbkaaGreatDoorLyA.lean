/- Options; the skeleton of a graph. -/
import Derived.Test.YtjjbhjnpeenbkaaGreatDoorGrA
import Derived.Test.YtjjbhjnpeenbkaaGreatDoorA
import Derived.Test.YtjjbhjnpeenbkaaGreatDoorCyA
import Derived.Test.YtjjbhjnpeenbkaaGreatDoorSxZ
import Derived.Test.YtjjbhjnpeenbkaaGreatDoorSxL
import Derived.Test.YtjjbhjnpeenbkaaGreatDoorG
import Derived.Test.YtjjbhjnpeenbkaaGreatDoorOrB
import Derived.Test.YtjjbhjnpeenbkaaGreatDoorCe
import Derived.Test.YtjjbhjnpeenbkaaGreatDoorPSKahn
import Derived.Lay
import Derived.Test.YtjjbhjnpeenbkaaGreatDoorAlA
set_option linter.unusedSimpArgs false
set_option linter.unusedVariables false
set_option maxHeartbeats 16000000
namespace Go.Proofs.YtjjbhjnpeenbkaaGreatDoor.Gr
open Go Go.PS Go.Proofs Go.Proofs.YtjjbhjnpeenbkaaGreatDoor
set_option maxRecDepth 100000
attribute [local irreducible] Zad wpG Zaa Zag
structure Opt where
 md:Int
 nsep:Int
 rsep:Int
 mg:Int
 rd:Int
abbrev ZbI (o:Opt):D:= .ag [.int o.md, .int o.nsep, .int o.rsep, .int o.mg, .int o.rd]
def Zgo (m x:Int):Bool:=decide (0<=x)&&decide (x<=m)
def okO (o:Opt):Bool:=Zgo 4 o.md&&(Zgo 1048576 o.nsep&&(Zgo 1048576 o.rsep&&(Zgo 1048576 o.mg&&(Zgo 100 o.rd))))
theorem ZjI (m x:Int)(hm:0<=m):decide (x=if m<(if x<0 then 0 else x)then m else(if x<0 then 0 else x))=Zgo m x:=by
 rw[qV];simp only[Zgo,uF,uL];split<;>split<;>omega
theorem Zoq (o:Opt):Zaa Tryz.prog 46 [ZbI o] (.bool (okO o)):=by
 have e1:=ZjI 4 o.md (by decide);have e2:=ZjI 1048576 o.nsep (by decide);have e3:=ZjI 1048576 o.rsep (by decide);have e4:=ZjI 1048576 o.mg (by decide);have e5:=ZjI 100 o.rd (by decide);refine kE Tryz.func46 ?_;intro hat B X w0;refine kw1 kO (kc5 e1 e2 e3 e4 e5) kc0 ?_;exact Zah (by simp only[okO,Bool.and_true])
def ZhB (g:Gph):Gr:=((g.ns.length:Int),g.es.map λ e=>(e.fr,e.to))
def Zde (g:Gph)(k:Nat):List Arc:=(g.es.take k).map λ e=>(e.fr,e.to)
theorem Zvg {g:Gph}{k:Nat}{e:Ed}(h:g.es[k]? =some e):Zde g (k+1)=Zde g k++[(e.fr,e.to)]:=by
 rw[Zde,Zde,ZaA h,uQ];rfl
theorem Zve (g:Gph):Zde g g.es.length=(ZhB g).2:=by rw[Zde,yE,ZhB]
theorem Zvf (g:Gph){k:Nat}(h:k<=g.es.length):(Zde g k).length=k:=by rw[Zde,uC,yJ];omega
theorem ZEk (g:Gph)(hl:g.es.length<=1000000):Zaa Tryz.prog 95 [ZaN g] (gD (ZhB g)):=by
 refine kE Tryz.func95 ?_;intro hat B X w0;refine kw1 kO kc0 kc0 ?_;refine Zao _ (Zch 3 1 901 2 rfl rfl rfl) ?_;refine Zaf (λ(k:Nat)=>k<=g.es.length) (λ k=>[(2, .ptr 2 0 0 0),(3, .ptr 3 0 0 0),(11, .d (.sl (g.es.map edD))),(12, .int g.es.length),(13, .int k)]) (λ k=>[(2, .cells [.int 0, .nilS]),(3, .cells [.int g.ns.length, .ref 901 2 0 (Zde g k).length (Zde g k).length]),(901, .row 2 ((Zde g k).map Za0))]) (λ k=>g.es.length-k) 0 ?_ ?_ ?_
 ·exact uH _
 ·exact kN kc0 []
 ·intro k hk;have hln:=Zvf g hk;rcases uE k g.es.length with hlt|hge
  ·obtain⟨e,he⟩:=Zac hlt;have hs:=Zvg he;have htk:((Zde g k).map Za0).take k=(Zde g k).map Za0:=uD (by simp[hln]);refine kw1 kO (kc3 he htk hln) kc0 ?_;refine⟨k+1,?_,eL [(901,25)] _ _ (by refine⟨?_,?_⟩<;>(repeat' first|exact fmn|refine fmc ⟨(by first|rfl|(simp(disch:=omega) only[go_sem,simprocAttr,inL,hs,uG,yL,uQ,uT,yH,hln];first|done|omega|(congr 1;done))),?_⟩);done),?_⟩
   ·exact hlt
   ·omega
  ·obtain rfl:k=g.es.length:=by omega
   refine kw1 kO kc0 kc0 ?_;refine⟨_,_,_,_,rfl,?_⟩;simp(disch:=omega) only[go_sem,simprocAttr];rw[Zve,Zal];rfl
open Go.Cy (NA InN Zbk Za5)
def naF (g:Gph):List NA:=g.es.map λ e=>(e.fr.toNat,e.to.toNat)
def Za3 (g:Gph):List NA:=Za5 (naF g) (Zbk g.ns.length (naF g))
theorem ZfP (g:Gph):(Za3 g).length=g.es.length:=by rw[Za3,Go.Cy.flipN_len,naF,uC]
structure Zbs (g:Gph):Prop where
 md:Mod g
 ok:Zd0 g=0
 n8:g.ns.length<=8
theorem ZeT {g:Gph}(h:Zd0 g=0):g.es.length<=256/\fe (Zhe g) g.ns.length=0/\fe (ZhW g) g.es.length=0:=by
 rw[Zd0]at h;split at h
 ·cases h
 ·split at h
  ·cases h
  ·split at h
   ·contradiction
   ·rename_i h1;split at h
    ·contradiction
    ·exact⟨by omega,by omega,h⟩
theorem Zns {g:Gph}(h:Zd0 g=0){k:Nat}{e:Ed}(he:g.es[k]? =some e):0<=e.fr/\e.fr<g.ns.length/\0<=e.to/\e.to<g.ns.length/\1<=e.wt/\e.wt<=1000/\1<=e.ln/\e.ln<=64:=by
 have h1:=Znx (ZeT h).2.2 k (uB.1 he).1;rw[ZhW,he]at h1;dsimp only at h1;rw[ZiQ]at h1;split at h1
 ·cases h1
 ·split at h1
  ·contradiction
  ·split at h1
   ·cases h1
   ·omega
theorem ZuI {g:Gph}(h:Zd0 g=0):ZhB g=((g.ns.length:Int),Cyc.castA (naF g)):=by
 rw[ZhB,Cyc.castA,naF,gR]
 congr 1
 refine yM λ e he=>?_
 obtain⟨k,hk⟩:=yV.1 he;obtain⟨h1,_,h2,_⟩:=Zns h hk;simp only[Function.comp];rw[show((e.fr.toNat:Nat):Int)=e.fr by omega,show((e.to.toNat:Nat):Int)=e.to by omega]
theorem ZlO {g:Gph}(h:Zd0 g=0):InN g.ns.length (naF g):=by
 intro a ha;obtain⟨e,he,rfl⟩:=uP.1 ha;obtain⟨k,hk⟩:=yV.1 he;obtain⟨h1,h2,h3,h4,_⟩:=Zns h hk;dsimp only;omega
theorem ZuJ {g:Gph}(hs:Zbs g):gOk ((g.ns.length:Int),Cyc.castA (naF g))=true:=by
 have h1:=(ZeT hs.ok).1;have h2:=hs.n8;simp only[gOk,uL,uF,yC,yS];refine⟨⟨by omega,by omega,by rw[Cyc.castA_len,naF,uC];omega⟩,?_⟩;intro a ha;obtain⟨b,hb,rfl⟩:=uP.1 ha;have:=ZlO hs.ok b hb;simp[ZeY];omega
theorem Zqv {g:Gph}(h:Zd0 g=0):InN g.ns.length (Za3 g):=by
 intro a ha;obtain⟨k,b,hk,rfl⟩:=Go.Cy.flipN_mem ha;have:=ZlO h b (uA hk);split
 ·dsimp only;omega
 ·exact this
theorem Zw3 {g:Gph}(hs:Zbs g):∃s:D,Zaa Tryz.prog 94 [gD (ZhB g)] (.tup [s,gD ((g.ns.length:Int),Cyc.castA (Za3 g))]):=by
 have h:=Cyc.Break8 g.ns.length (naF g) (ZuJ hs) (ZlO hs.ok) (by rw[naF,uC];exact(ZeT hs.ok).1) hs.n8;rw[ZuI hs.ok];exact⟨_,h⟩
def ZdW (l:List NA)(i:Nat):Bool:=match l[i]? with
 |some a=>decide (a.1≠a.2)
 |none=>false
def ksF (l:List NA)(k:Nat):List Nat:=(List.range k).filter (ZdW l)
def ZhL (l:List NA)(i:Nat):Arc:=match l[i]? with
 |some a=>((a.1:Int),(a.2:Int))
 |none=>(0,0)
def ZaZ (l:List NA)(k:Nat):List Arc:=(ksF l k).map (ZhL l)
def ZaR (l:List NA)(k:Nat):List Int:=(ksF l k).map λ(i:Nat)=>(i:Int)
theorem Zg5 {l:List NA}{k:Nat}:ksF l (k+1)=ksF l k++if ZdW l k then[k]else[]:=by
 rw[ksF,ksF,qN,gC];cases h:ZdW l k<;>simp[h]
theorem Zg4 (l:List NA)(k:Nat):(ksF l k).length<=k:=by
 have:=gN (ZdW l) (List.range k);rw[zU]at this;exact this
theorem Zj2 {l:List NA}{k i:Nat}(h:i∈ksF l k):i<k/\ZdW l i=true:=by
 rw[ksF,zQ,uZ]at h;exact h
abbrev ZoF (n:Nat)(l:List NA):D:= .ag [.int n,Zaj (ZaZ l l.length),Zab (ZaR l l.length)]
theorem ZmR {g:Gph}(hs:Zbs g):Zaa Tryz.prog 47 [ZaN g] (ZoF g.ns.length (Za3 g)):=by
 obtain⟨h256,_,_⟩:=ZeT hs.ok;have h1:=ZEk g (by omega);obtain⟨s,h2⟩:=Zw3 hs;have hbl:=ZfP g;generalize Za3 g=l at*;have hcl:(Cyc.castA l).length=l.length:=Cyc.castA_len l;refine kE Tryz.func47 ?_;intro hat B X w0;refine kw1 kO (kc1 hcl) (kc2 h1 h2) ?_;refine Zao _ (Zch 5 1 901 2 rfl rfl rfl) ?_;refine Zao _ (Zch 5 2 902 1 rfl rfl rfl) ?_;refine Zaf (λ(k:Nat)=>k<=l.length) (λ k=>[(2, .ptr 2 0 0 0),(5, .ptr 5 0 0 0),(20, .d (Zaj (Cyc.castA l))),(21, .int l.length),(22, .int k)]) (λ k=>[(2, .cells [.int 0, .nilS, .nilS]),(5, .cells [.int g.ns.length, .ref 901 2 0 (ZaZ l k).length (ZaZ l k).length, .ref 902 1 0 (ZaR l k).length (ZaR l k).length]),(901, .row 2 ((ZaZ l k).map Za0)),(902, .row 1 ((ZaR l k).map D.int))]) (λ k=>l.length-k) 0 ?_ ?_ ?_
 ·exact uH _
 ·exact eL [] _ _ (by refine⟨?_,?_⟩<;>(repeat' first|exact fmn|refine fmc ⟨(by first|rfl|(simp(disch:=omega) only[go_sem,simprocAttr,inL,ZaZ,ZaR,ksF,jG,jX,yH,uY];first|done|omega|(congr 1;done))),?_⟩);done)
 ·intro k hk;have hlk:=Zg4 l k;have hl1:(ZaZ l k).length<=256:=by rw[ZaZ,uC];omega
  have hl2:(ZaR l k).length<=256:=by rw[ZaR,uC];omega
  rcases uE k l.length with hlt|hge
  ·obtain⟨a,ha⟩:=Zac hlt;have hp:(Cyc.castA l)[k]? =some ((a.1:Int),(a.2:Int)):=Cyc.castA_get ha;by_cases c:a.1=a.2
   ·have c':(a.1:Int)=a.2:=by omega
    have hn:ZdW l k=false:=by rw[ZdW,ha];simp[c]
    have e1:ZaZ l (k+1)=ZaZ l k:=by rw[ZaZ,ZaZ,Zg5,hn];simp
    have e2:ZaR l (k+1)=ZaR l k:=by rw[ZaR,ZaR,Zg5,hn];simp
    refine kw1 kO (kc3 hp hcl @c') kc0 ?_;refine⟨k+1,?_,kN (kc2 e1 e2) [],?_⟩
    ·exact hlt
    ·omega
   ·have c':¬(a.1:Int)=a.2:=by omega
    have hn:ZdW l k=true:=by rw[ZdW,ha];simp[c]
    have e1:ZaZ l (k+1)=ZaZ l k++[((a.1:Int),(a.2:Int))]:=by rw[ZaZ,ZaZ,Zg5,hn];simp[ZhL,ha]
    have e2:ZaR l (k+1)=ZaR l k++[(k:Int)]:=by rw[ZaR,ZaR,Zg5,hn];simp
    refine kw1 kO (kc4 hp hcl @c' @Zal) kc0 ?_;refine⟨k+1,?_,kN (kc7 e1 e2 @uG.{0} @yL.{0} @uQ.{0,0} @uT.{0,0} @yH.{0,0}) [(901,37),(902,44)],?_⟩
    ·exact hlt
    ·omega
  ·obtain rfl:k=l.length:=by omega
   refine kw1 kO kc0 kc0 ?_;refine⟨_,_,_,_,rfl,?_⟩;simp(disch:=omega) only[go_sem,simprocAttr];rw[Zal,Zal]
def Zk9 (g:Gph)(l:List NA)(i:Nat):Sx.Bd:=match l[i]?,g.es[i]? with
 |some a,some e=>((a.1:Int),(a.2:Int),e.ln,e.wt)
 |_,_=>(0,0,0,0)
def Zbv (g:Gph)(l:List NA)(k:Nat):List Sx.Bd:=((ksF l l.length).take k).map (Zk9 g l)
def Zck (g:Gph):Sx.Net:=((g.ns.length:Int),Zbv g (Za3 g) (ksF (Za3 g) (Za3 g).length).length)
theorem ZiF {g:Gph}{l:List NA}{k:Nat}(h:k<=(ksF l l.length).length):(Zbv g l k).length=k:=by
 rw[Zbv,uC,yJ];omega
theorem Zt1 {g:Gph}(hs:Zbs g){r f:List Int}(hS:Sx.SolveOk (Zck g) r f):Zaa Tryz.prog 48 [ZoF g.ns.length (Za3 g),ZaN g] (.tup [Zab r,Zab f, .int 0]):=by
 obtain⟨n',hn',hr',hf',hS⟩:=hS;obtain⟨h256,_,_⟩:=ZeT hs.ok;have hbl:=ZfP g;simp only[Zck]at hn' hf' hS;generalize Za3 g=l at*;have hlk:=Zg4 l l.length;have hlb:=ZiF (g:=g) (l:=l) (uJ _);rw[hlb]at hf' hS;obtain rfl:n'=g.ns.length:=by omega
 have hpl:(ZaZ l l.length).length=(ksF l l.length).length:=by rw[ZaZ,uC]
 have hel:(ZaR l l.length).length=(ksF l l.length).length:=by rw[ZaR,uC]
 refine kE Tryz.func48 ?_;intro hat B X w0;refine kw1 kO (kc1 hpl) kc0 ?_;refine Zao _ (Zch 7 1 901 4 rfl rfl rfl) ?_;refine Zaf (λ(k:Nat)=>k<=(ksF l l.length).length) (λ k=>[(2, .ptr 2 0 0 0),(3, .ptr 3 0 0 0),(7, .ptr 7 0 0 0),(17, .d (Zaj (ZaZ l l.length))),(18, .int (ksF l l.length).length),(19, .int k)]) (λ k=>[(2, .cells [.int g.ns.length, .d (Zaj (ZaZ l l.length)), .d (Zab (ZaR l l.length))]),(3, .cells [.d (Za1 g.nm), .d (.bool g.dir), .d (.sl (g.ns.map ndD)), .d (.sl (g.es.map edD)), .d (.sl (g.cs.map clD))]),(7, .cells [.int g.ns.length, .ref 901 4 0 (Zbv g l k).length (Zbv g l k).length]),(901, .row 4 ((Zbv g l k).map Sx.bdD))]) (λ k=>(ksF l l.length).length-k) 0 ?_ ?_ ?_
 ·exact uH _
 ·exact kN (kc4 @Zbv.eq_1 @yX.{0} @yH.{0,0} @uY.{0}) []
 ·intro k hk;have hl1:=ZiF (g:=g) hk;rcases uE k (ksF l l.length).length with hlt|hge
  ·obtain⟨i,hi⟩:=Zac hlt;obtain⟨q1,q2⟩:=Zj2 (uA hi);obtain⟨a,ha⟩:=Zac q1;obtain⟨e,he⟩:=Zac (l:=g.es) (k:=i) (by omega);have p1:(ZaZ l l.length)[k]? =some ((a.1:Int),(a.2:Int)):=by rw[ZaZ,uI,hi];simp[ZhL,ha]
   have p2:(ZaR l l.length)[k]? =some (i:Int):=by rw[ZaR,uI,hi];rfl
   have e1:Zbv g l (k+1)=Zbv g l k++[((a.1:Int),(a.2:Int),e.ln,e.wt)]:=by
    rw[Zbv,Zbv,ZaA hi,uQ];simp[Zk9,ha,he]
   have htk:((Zbv g l k).map Sx.bdD).take k=(Zbv g l k).map Sx.bdD:=uD (by simp[hl1]);refine kw1 kO (kc7 p1 p2 he hpl hel hl1 htk) kc0 ?_;refine⟨k+1,?_,kN (kc7 e1 @uG.{0} @yL.{0} @uQ.{0,0} @uT.{0,0} @yH.{0,0} hl1) [(901,45)],?_⟩
   ·exact hlt
   ·omega
  ·obtain rfl:k=(ksF l l.length).length:=by omega
   refine Zao _ (Zc5 901 4 ((Zbv g l (ksF l l.length).length).map Sx.bdD) rfl (ZcW _ rfl) (by decide)) ?_;have htk0:((Zbv g l (ksF l l.length).length).map Sx.bdD).take (ksF l l.length).length=(Zbv g l (ksF l l.length).length).map Sx.bdD:=uD (by simp[hl1]);refine kw1 kO (kc3 htk0 @qR.{0} hl1) (kc1 (kmc [(2000,950),(2001,951)] hS)) ?_;exact⟨_,rfl,ZbF (o:=950) rfl rfl (by simp[Sx.intsL,hr']) (by rw[uD (by simp[Sx.intsL,hr'])]),ZbF (o:=951) rfl rfl (by simp[Sx.intsL,hf']) (by rw[uD (by simp[Sx.intsL,hf'])]),Zai rfl,trivial⟩
theorem ZCr {g:Gph}(hs:Zbs g){e:Int}(hS:Sx.SolveNo (Zck g) e):Zaa Tryz.prog 48 [ZoF g.ns.length (Za3 g),ZaN g] (.tup [.sl [], .sl [], .int e]):=by
 unfold Sx.SolveNo at hS;obtain⟨h256,_,_⟩:=ZeT hs.ok;have hbl:=ZfP g;simp only[Zck]at hS;generalize Za3 g=l at*;have hlk:=Zg4 l l.length;have hlb:=ZiF (g:=g) (l:=l) (uJ _);have hpl:(ZaZ l l.length).length=(ksF l l.length).length:=by rw[ZaZ,uC]
 have hel:(ZaR l l.length).length=(ksF l l.length).length:=by rw[ZaR,uC]
 refine kE Tryz.func48 ?_;intro hat B X w0;refine kw1 kO (kc1 hpl) kc0 ?_;refine Zao _ (Zch 7 1 901 4 rfl rfl rfl) ?_;refine Zaf (λ(k:Nat)=>k<=(ksF l l.length).length) (λ k=>[(2, .ptr 2 0 0 0),(3, .ptr 3 0 0 0),(7, .ptr 7 0 0 0),(17, .d (Zaj (ZaZ l l.length))),(18, .int (ksF l l.length).length),(19, .int k)]) (λ k=>[(2, .cells [.int g.ns.length, .d (Zaj (ZaZ l l.length)), .d (Zab (ZaR l l.length))]),(3, .cells [.d (Za1 g.nm), .d (.bool g.dir), .d (.sl (g.ns.map ndD)), .d (.sl (g.es.map edD)), .d (.sl (g.cs.map clD))]),(7, .cells [.int g.ns.length, .ref 901 4 0 (Zbv g l k).length (Zbv g l k).length]),(901, .row 4 ((Zbv g l k).map Sx.bdD))]) (λ k=>(ksF l l.length).length-k) 0 ?_ ?_ ?_
 ·exact uH _
 ·exact kN (kc4 @Zbv.eq_1 @yX.{0} @yH.{0,0} @uY.{0}) []
 ·intro k hk;have hl1:=ZiF (g:=g) hk;rcases uE k (ksF l l.length).length with hlt|hge
  ·obtain⟨i,hi⟩:=Zac hlt;obtain⟨q1,q2⟩:=Zj2 (uA hi);obtain⟨a,ha⟩:=Zac q1;obtain⟨e,he⟩:=Zac (l:=g.es) (k:=i) (by omega);have p1:(ZaZ l l.length)[k]? =some ((a.1:Int),(a.2:Int)):=by rw[ZaZ,uI,hi];simp[ZhL,ha]
   have p2:(ZaR l l.length)[k]? =some (i:Int):=by rw[ZaR,uI,hi];rfl
   have e1:Zbv g l (k+1)=Zbv g l k++[((a.1:Int),(a.2:Int),e.ln,e.wt)]:=by
    rw[Zbv,Zbv,ZaA hi,uQ];simp[Zk9,ha,he]
   have htk:((Zbv g l k).map Sx.bdD).take k=(Zbv g l k).map Sx.bdD:=uD (by simp[hl1]);refine kw1 kO (kc7 p1 p2 he hpl hel hl1 htk) kc0 ?_;refine⟨k+1,?_,kN (kc7 e1 @uG.{0} @yL.{0} @uQ.{0,0} @uT.{0,0} @yH.{0,0} hl1) [(901,45)],?_⟩
   ·exact hlt
   ·omega
  ·obtain rfl:k=(ksF l l.length).length:=by omega
   refine Zao _ (Zc5 901 4 ((Zbv g l (ksF l l.length).length).map Sx.bdD) rfl (ZcW _ rfl) (by decide)) ?_;have htk0:((Zbv g l (ksF l l.length).length).map Sx.bdD).take (ksF l l.length).length=(Zbv g l (ksF l l.length).length).map Sx.bdD:=uD (by simp[hl1]);refine kw1 kO (kc3 htk0 @qR.{0} hl1) (kc1 (kmc [(2000,950),(2001,951)] hS)) ?_;exact⟨_,rfl,rfl,rfl,Zai rfl,trivial⟩
theorem ZoW (a b:List Int):Zaa Tryz.prog 31 [Zab a,Zab b] (.bool (decide (a=b))):=by
 refine kE Tryz.func31 ?_;intro hat B X w0;have hl:=ZaJ 0 hat rfl;rw[uC]at hl;by_cases hab:a.length=b.length
 ·have hab':(a.length:Int)=b.length:=by omega
  refine kw1 kO (kc1 @hab') kc0 ?_;refine Zaf (λ(k:Nat)=>k<=a.length/\a.take k=b.take k) (λ k=>[(0, .d (Zab a)),(1, .d (Zab b)),(5, .int k)]) (λ k=>[]) (λ k=>a.length-k) 0 ?_ ?_ ?_
  ·exact⟨uH _,rfl⟩
  ·exact kN kc0 []
  ·rintro k ⟨hk,hinv⟩;rcases uE k a.length with hlt|hge
   ·obtain⟨x,hx⟩:=Zac hlt;obtain⟨y,hy⟩:=Zac (l:=b) (k:=k) (by omega);by_cases c:x=y
    ·subst c;refine kw1 kO (kc2 hx hy) kc0 ?_;refine⟨k+1,?_,kN kc0 [],?_⟩
     ·exact⟨hlt,by rw[ZaA hx,ZaA hy,hinv]⟩
     ·omega
    ·refine kw1 kO (kc3 hx hy c) kc0 ?_;exact Zah (by rw[uV (ZgO hx hy c)])
   ·refine kw1 kO kc0 kc0 ?_;refine Zah ?_;rw[uD hge,uD (by omega)]at hinv;rw[yD hinv]
 ·have hab':¬(a.length:Int)=b.length:=by omega
  refine kw1 kO (kc1 @hab') kc0 ?_;exact Zah (by rw[uV (λ h=>hab (by rw[h]))])
def Zfn (m:Nat)(ks:List Nat)(f:List Int):Nat->List Int
 |0=>List.replicate m 0
 |k+1=>(Zfn m ks f k).set (ks[k]?.getD 0) (f[k]?.getD 0)
theorem Zwj (m:Nat)(ks:List Nat)(f:List Int):∀k,(Zfn m ks f k).length=m:=by
 intro k
 induction k with
 |zero=>simp[Zfn]
 |succ k ih=>rw[Zfn,yP,ih]
def ZkX (g:Gph)(f:List Int):List Int:=Zfn g.es.length (ksF (Za3 g) (Za3 g).length) f (ksF (Za3 g) (Za3 g).length).length
theorem Zv4 {g:Gph}(hs:Zbs g){r f:List Int}(hS:Sx.SolveOk (Zck g) r f):Zaa Tryz.prog 29 [ZaN g] (.tup [Zab r,Zab (ZkX g f), .int 0]):=by
 have h1:=Zea g hs.md;rw[hs.ok]at h1;have h2:=ZmR hs;have h3:=Zt1 hs hS;obtain⟨n',hn',hr',hf',_⟩:=hS;obtain⟨h256,_,_⟩:=ZeT hs.ok;have hbl:=ZfP g;rw[ZkX];simp only[Zck]at hf';rw[ZiF (uJ _)]at hf';generalize Za3 g=l at*;have hlk:=Zg4 l l.length;have hel:(ZaR l l.length).length=(ksF l l.length).length:=by rw[ZaR,uC]
 refine kE Tryz.func29 ?_;intro hat B X w0;refine kw1 kO (kc1 hel) (kc3 h1 h2 h3) ?_;refine Zaf (λ(k:Nat)=>k<=(ksF l l.length).length) (λ k=>[(7, .d (Zab r)),(8, .d (Zab f)),(10, .ref 33 1 0 g.es.length g.es.length),(35, .d (Zab (ZaR l l.length))),(36, .int (ksF l l.length).length),(37, .int k)]) (λ k=>[(33, .row 1 ((Zfn g.es.length (ksF l l.length) f k).map D.int))]) (λ k=>(ksF l l.length).length-k) 0 ?_ ?_ ?_
 ·exact uH _
 ·exact kN (kc2 @Zfn.eq_1 @kW.{0,0}) []
 ·intro k hk;have hal:=Zwj g.es.length (ksF l l.length) f k;rcases uE k (ksF l l.length).length with hlt|hge
  ·obtain⟨i,hi⟩:=Zac hlt;obtain⟨x,hx⟩:=Zac (l:=f) (k:=k) (by omega);obtain⟨q1,q2⟩:=Zj2 (uA hi);have p2:(ZaR l l.length)[k]? =some (i:Int):=by rw[ZaR,uI,hi];rfl
   obtain⟨y,hy⟩:=Zac (l:=Zfn g.es.length (ksF l l.length) f k) (k:=i) (by omega);have e1:Zfn g.es.length (ksF l l.length) f (k+1)=(Zfn g.es.length (ksF l l.length) f k).set i x:=by rw[Zfn,hi,hx];rfl
   refine kw1 kO (kc5 p2 hel hx hy hal) kc0 ?_;refine⟨k+1,?_,kN (kc2 e1 @yZ.{0,0}) [],?_⟩
   ·exact hlt
   ·omega
  ·obtain rfl:k=(ksF l l.length).length:=by omega
   refine kw1 kO kc0 kc0 ?_;exact⟨_,rfl,rfl,ZbF (o:=33) rfl rfl (by simp[hal]) (by rw[uD (by simp[hal])]),Zai rfl,trivial⟩
abbrev Znv (c:UInt8):Nd:=⟨⟨#[c]⟩,⟨#[97]⟩,20000,10000,-1,[]⟩
abbrev Zrf (t:Int):Ed:=⟨0,t,-1,-1,⟨#[]⟩,1,1⟩
abbrev ZdA :Gph:=⟨⟨#[103]⟩,true,[Znv 97,Znv 98,Znv 99],[Zrf 1,Zrf 2],[]⟩
theorem Zyq :Mod ZdA:=by
 refine⟨by decide,λ n hn=>?_,λ e he=>?_,λ c hc=>by cases hc⟩
 ·simp only[yF,gL,Cf]at hn;rcases hn with rfl|rfl|rfl<;>exact⟨by decide,by decide,λ p hp=>by cases hp⟩
 ·simp only[yF,gL,Cf]at he;rcases he with rfl|rfl<;>decide
theorem Zys :Zd0 ZdA=0:=by decide+kernel
theorem Zrh :Zbs ZdA:=⟨Zyq,Zys,by decide⟩
theorem Znw :Za3 ZdA=[(0,1),(0,2)]:=by decide+kernel
theorem Zyr :Zck ZdA=(3,[(0,1,1,1),(0,2,1,1)]):=by rw[Zck,Znw];decide+kernel
theorem Zri :Sx.SolveOk (Zck ZdA) [0,1,1] [1,1]:=by
 rw[Zyr];exact Sx.solve_of 3 _ 10 _ _ (by decide+kernel) (by decide+kernel) (by decide+kernel) (by decide+kernel) (by decide+kernel) (by decide+kernel)
theorem Zrg :Zaa Tryz.prog 29 [ZaN ZdA] (.tup [Zab [0,1,1],Zab [1,1], .int 0]):=by
 have h:=Zv4 Zrh Zri;rw[show ZkX ZdA [1,1]=[1,1] by rw[ZkX,Znw];decide+kernel]at h;exact h
theorem Zyt :Zaa Tryz.prog 44 [] (ZaN ZdA):=by
 refine kE Tryz.func44 ?_;intro hat B X w0;refine kw1 (kow (Nat.beq 7) (b:=true)) kc0 kc0 ?_;refine⟨_,_,_,_,rfl,?_⟩;simp(disch:=omega) only[go_sem,simprocAttr];rfl
theorem ZoK :Zaa Tryz.prog 12 [] (.bool true):=by
 have h1:=Zyt;have h2:=Zrg;have h3:=ZoW [0,1,1] [0,1,1];rw[yD rfl]at h3;refine kE Tryz.func12 ?_;intro hat B X w0;refine kw1 kO kc0 (kc3 h1 h2 h3) ?_;exact Zah rfl
end Go.Proofs.YtjjbhjnpeenbkaaGreatDoor.Gr
namespace Go.Proofs.YtjjbhjnpeenbkaaGreatDoor.Gr
open Go Go.PS Go.Proofs Go.Proofs.YtjjbhjnpeenbkaaGreatDoor
set_option maxRecDepth 100000
attribute [local irreducible] Zad wpG Zaa Zag
theorem ZiA {α:Type}{q:α->Bool}{l:List α}{k:Nat}{x:α}(h:l[k]? =some x)(hq:q x=false):l.all q=false:=by
 rw[List.all_eq_false];exact⟨x,uA h,by rw[hq];decide⟩
theorem Zk1 {α:Type}{q:α->Bool}{l:List α}{k:Nat}(hk:l.length<=k)(h:∀(j:Nat) y,j<k->l[j]? =some y->q y=true):l.all q=true:=by
 rw[uX];intro x hx;obtain⟨j,hj⟩:=yV.1 hx;exact h j x (by have:=(uB.1 hj).1;omega) hj
def ptF (p:Pt):Bool:=decide (p.nm.size<=40)
def ndF (n:Nd):Bool:=decide (n.nm.size<=40/\n.lb.size<=80/\n.ps.length<=9)&&n.ps.all ptF
def edF (e:Ed):Bool:=decide (e.lb.size<=80/\e.ln<=4)
def clF (c:Cl):Bool:=decide (c.nm.size<=40)
def ZfV (g:Gph)(n m:Nat):Bool:=decide (g.ns.length<=n/\g.es.length<=m/\g.cs.length<=6/\g.nm.size<=40)&&(g.ns.all ndF&&(g.es.all edF&&g.cs.all clF))
theorem Zrl (g:Gph)(n m:Nat)(hn:n<=100)(hm:m<=100):Zaa Tryz.prog 11 [ZaN g, .int n, .int m] (.bool (ZfV g n m)):=by
 by_cases c0:g.ns.length<=n/\g.es.length<=m/\g.cs.length<=6/\g.nm.size<=40
 ·obtain⟨a1,a2,a3,a4⟩:=c0;rw[ZfV,yD ⟨a1,a2,a3,a4⟩,kH];have b1:¬(n:Int)<g.ns.length:=by omega
  have b2:¬(m:Int)<g.es.length:=by omega
  have b3:¬(6:Int)<g.cs.length:=by omega
  have b4:¬(40:Int)<g.nm.size:=by omega
  refine kE Tryz.func11 ?_;intro hat B X w0;refine kw1 kO (kc4 b1 b2 b3 b4) kc0 ?_;refine Zaf (λ(k:Nat)=>k<=g.ns.length/\∀(j:Nat) y,j<k->g.ns[j]? =some y->ndF y=true) (λ k=>[(3, .ptr 3 0 0 0),(7, .int k)]) (λ k=>[(3, .cells [.d (Za1 g.nm), .d (.bool g.dir), .d (.sl (g.ns.map ndD)), .d (.sl (g.es.map edD)), .d (.sl (g.cs.map clD))])]) (λ k=>g.ns.length-k) 0 ?_ ?_ ?_
  ·exact⟨uH _,λ j y h=>by omega⟩
  ·exact kN kc0 []
  ·rintro k ⟨hk,hinv⟩;rcases uE k g.ns.length with hlt|hge
   ·obtain⟨x,hx⟩:=Zac hlt;by_cases c1:x.nm.size<=40/\x.lb.size<=80/\x.ps.length<=9
    ·obtain⟨d1,d2,d3⟩:=c1;have f1:¬(40:Int)<x.nm.size:=by omega
     have f2:¬(80:Int)<x.lb.size:=by omega
     have f3:¬(9:Int)<x.ps.length:=by omega
     have hx2:ndF x=x.ps.all ptF:=by rw[ndF,yD ⟨d1,d2,d3⟩,kH]
     refine kw1 kO (kc4 hx f1 f2 f3) kc0 ?_;refine Zaf (λ(j:Nat)=>j<=x.ps.length/\∀(i:Nat) y,i<j->x.ps[i]? =some y->ptF y=true) (λ j=>[(3, .ptr 3 0 0 0),(7, .int k),(8, .ptr 8 0 0 0),(9, .int j)]) (λ j=>[(3, .cells [.d (Za1 g.nm), .d (.bool g.dir), .d (.sl (g.ns.map ndD)), .d (.sl (g.es.map edD)), .d (.sl (g.cs.map clD))]),(8, .cells [.d (Za1 x.nm), .d (Za1 x.lb), .int x.w, .int x.h, .int x.cl, .d (.sl (x.ps.map ptD))])]) (λ j=>x.ps.length-j) 0 ?_ ?_ ?_
     ·exact⟨uH _,λ j y h=>by omega⟩
     ·exact kN kc0 []
     ·rintro j ⟨hj,hjn⟩;rcases uE j x.ps.length with hjl|hjg
      ·obtain⟨p,hp⟩:=Zac hjl;by_cases c2:p.nm.size<=40
       ·have f4:¬(40:Int)<p.nm.size:=by omega
        refine kw1 kO (kc2 hp f4) kc0 ?_;refine⟨j+1,?_,kN kc0 [],?_⟩
        ·exact⟨hjl,Zbr hjn hp (yD c2)⟩
        ·omega
       ·have f4:(40:Int)<p.nm.size:=by omega
        refine kw1 kO (kc2 hp f4) kc0 ?_;exact Zah (by rw[ZiA hx (by rw[hx2];exact ZiA hp (uV c2))];rfl)
      ·refine kw1 kO kc0 kc0 ?_;refine⟨k+1,?_,kN kc0 [],?_⟩
       ·exact⟨hlt,Zbr hinv hx (by rw[hx2];exact Zk1 hjg hjn)⟩
       ·omega
    ·have hx2:ndF x=false:=by rw[ndF,uV c1];rfl
     refine kw kO (kc1 hx) kc0 ?_
     repeat' first|exact True.intro|refine Bn.mk ?_ ?_|intro hc
     all_goals first|(refine Zah ?_;rw[ZiA hx hx2];rfl)|(exfalso;omega)
   ·refine kw1 kO kc0 kc0 ?_;refine Zaf (λ(j:Nat)=>j<=g.es.length/\∀(i:Nat) y,i<j->g.es[i]? =some y->edF y=true) (λ j=>[(3, .ptr 3 0 0 0),(10, .int j)]) (λ j=>[(3, .cells [.d (Za1 g.nm), .d (.bool g.dir), .d (.sl (g.ns.map ndD)), .d (.sl (g.es.map edD)), .d (.sl (g.cs.map clD))])]) (λ j=>g.es.length-j) 0 ?_ ?_ ?_
    ·exact⟨uH _,λ j y h=>by omega⟩
    ·exact kN kc0 []
    ·rintro j ⟨hj,hjn⟩;rw[Zk1 hge hinv,kH];rcases uE j g.es.length with hjl|hjg
     ·obtain⟨e,he⟩:=Zac hjl;by_cases c2:e.lb.size<=80
      ·have f4:¬(80:Int)<e.lb.size:=by omega
       by_cases c3:e.ln<=4
       ·have f5:¬(4:Int)<e.ln:=by omega
        refine kw1 kO (kc3 he f4 f5) kc0 ?_;refine⟨j+1,?_,kN kc0 [],?_⟩
        ·exact⟨hjl,Zbr hjn he (yD ⟨c2,c3⟩)⟩
        ·omega
       ·have f5:(4:Int)<e.ln:=by omega
        refine kw1 kO (kc3 he f4 f5) kc0 ?_;exact Zah (by rw[ZiA he (uV (λ h=>c3 h.2))];rfl)
      ·have f4:(80:Int)<e.lb.size:=by omega
       refine kw1 kO (kc2 he f4) kc0 ?_;exact Zah (by rw[ZiA he (uV (λ h=>c2 h.1))];rfl)
     ·rw[Zk1 hjg hjn,kH];refine kw1 kO kc0 kc0 ?_;refine Zaf (λ(j:Nat)=>j<=g.cs.length/\∀(i:Nat) y,i<j->g.cs[i]? =some y->clF y=true) (λ j=>[(3, .ptr 3 0 0 0),(11, .int j)]) (λ j=>[(3, .cells [.d (Za1 g.nm), .d (.bool g.dir), .d (.sl (g.ns.map ndD)), .d (.sl (g.es.map edD)), .d (.sl (g.cs.map clD))])]) (λ j=>g.cs.length-j) 0 ?_ ?_ ?_
      ·exact⟨uH _,λ j y h=>by omega⟩
      ·exact kN kc0 []
      ·rintro j ⟨hj,hjn⟩;rcases uE j g.cs.length with hjl|hjg
       ·obtain⟨c,hc⟩:=Zac hjl;by_cases c2:c.nm.size<=40
        ·have f4:¬(40:Int)<c.nm.size:=by omega
         refine kw1 kO (kc2 hc f4) kc0 ?_;refine⟨j+1,?_,kN kc0 [],?_⟩
         ·exact⟨hjl,Zbr hjn hc (yD c2)⟩
         ·omega
        ·have f4:(40:Int)<c.nm.size:=by omega
         refine kw1 kO (kc2 hc f4) kc0 ?_;exact Zah (by rw[ZiA hc (uV c2)])
       ·refine kw1 kO kc0 kc0 ?_;exact Zah (by rw[Zk1 hjg hjn])
 ·rw[ZfV,uV c0,Af];refine kE Tryz.func11 ?_;intro hat B X w0;refine kw kO kc0 kc0 ?_
  repeat' first|exact True.intro|refine Bn.mk ?_ ?_|intro hc
  all_goals first|exact Zah rfl|(exfalso;omega)
theorem Zny {g:Gph}{n m:Nat}(h:ZfV g n m=true):g.ns.length<=n/\g.es.length<=m/\Mod g/\∀e∈g.es,e.ln<=4:=by
 simp only[ZfV,uL,uF,uX]at h;obtain⟨⟨h1,h2,h3,h4⟩,h5,h6,h7⟩:=h;refine⟨h1,h2,⟨by omega,λ x hx=>?_,λ e he=>?_,λ c hc=>?_⟩,λ e he=>?_⟩
 ·have:=h5 x hx;simp only[ndF,uL,uF,uX]at this;obtain⟨⟨g1,g2,g3⟩,g4⟩:=this;exact⟨by omega,by omega,λ p hp=>by have:=g4 p hp;rw[ptF,uF]at this;omega⟩
 ·have:=h6 e he;rw[edF,uF]at this;omega
 ·have:=h7 c hc;rw[clF,uF]at this;omega
 ·have:=h6 e he;rw[edF,uF]at this;omega
open Go.Cy (NA InN Zbk Za5)
def pGr (g:Gph):Gr:=((g.ns.length:Int),ZaZ (Za3 g) (Za3 g).length)
def Zjb (g:Gph)(o:Opt)(r:List Int):Lv×Int×Int:=if(Zay (pGr g) r).2=0 then Zhh (Zay (pGr g) r).1 o.rd else(lv0,0,2)
theorem Zoy {g:Gph}:(pGr g).2.length<=g.es.length:=by
 have:=Zg4 (Za3 g) (Za3 g).length;rw[pGr,ZaZ,uC];have:=ZfP g;omega
theorem ZAH (r:List Int)(a:Arc)(k:Int):∀n,((Zan r a n).filter λ x=>decide (some x=some k)).length<=if at0 r a.1+1+n<=k then 0 else 1:=by
 intro n
 induction n with
 |zero=>simp[Zan]
 |succ n ih=>
  rw[Zod,gC,uG];have h:([at0 r a.1+1+(n:Int)].filter λ x=>decide (some x=some k)).length=if at0 r a.1+1+(n:Int)=k then 1 else 0:=by
   by_cases c:at0 r a.1+1+(n:Int)=k<;>simp[c]
  rw[h];split at ih<;>split<;>split<;>omega
theorem ZzK {r:List Int}{l:List Arc}{k:Int}:∀e,e<=l.length->((Zas r l e).filter λ x=>decide (some x=some k)).length<=r.length+e:=by
 intro e
 induction e with
 |zero=>
  intro _;have:=gN (λ x=>decide (some x=some k)) r;simpa[Zas]using this
 |succ e ih=>
  intro h;obtain⟨a,ha⟩:=Zac (show e<l.length by omega);rw[Ziz ha,gC,uG];have h1:=ih (by omega);have h2:=ZAH r a k (ZaI r a);split at h2<;>omega
theorem Zj4 (all:List Int)(k:Nat):(Za6 all k).length=(all.filter λ x=>decide (some x=some (k:Int))).length:=by
 have e:(List.range all.length).map (λ v=>all[v]?)=all.map some:=by
  refine qA λ i=>?_
  rw[uI,uI];rcases uE i all.length with h|h
  ·obtain⟨x,hx⟩:=Zac h;rw[yR h,hx];show some (all[i]?)=_;rw[hx];rfl
  ·rw[uN (by simpa using h),uN h];rfl
 have:=qU (λ l=>(l.filter λ o=>decide (o=some (k:Int))).length) e;rw[List.filter_map,List.filter_map,uC,uC]at this;rw[Za6,uC];exact this
theorem Zw5 {g:Gr}{r:List Int}(h:(Zay g r).2=0)(hl:g.1+g.2.length<=19):wide (Zay g r).1/\(Zay g r).1.2.2.1.length<=700:=by
 have b:=built h;have hA:=Zk0 b.gap g.2.length (uJ _);have hB:=Zk6 b.gap g.2.length (uJ _);have h1:=b.big;have h2:=b.len;rw[b.eq];dsimp only;refine⟨λ y hy=>?_,?_⟩
 ·rw[Zn4,ZbH]at hy;obtain⟨k,_,rfl⟩:=uP.1 hy;have h3:=ZzK (r:=r) (l:=g.2) (k:=(k:Int)) _ (uJ _);rw[<-Zj4]at h3;omega
 ·show(ZaV r g.2 g.2.length).length<=700;omega
theorem Zqy {g:Gph}{r:List Int}(h:(Zay (pGr g) r).2=0)(h8:g.ns.length<=8)(hl:g.es.length<=11):wide (Zay (pGr g) r).1/\(Zay (pGr g) r).1.2.2.1.length<=700:=Zw5 h (by
 have hpl:=Zoy (g:=g);have e1:(pGr g).1=g.ns.length:=rfl;omega)
theorem ZvZ {g:Gph}(o:Opt)(hm:Mod g)(h:Zd0 g≠0):Zaa Tryz.prog 13 [ZaN g,ZbI o] (.tup [lvD lv0, .int 0, .int (Zd0 g)]):=by
 have h1:=Zea g hm;refine kE Tryz.func13 ?_;intro hat B X w0;refine kw1 kO (kc1 h) (kc1 h1) ?_;refine⟨_,rfl,⟨_,_,_,_,rfl,?_⟩,Zai ?_,Zai ?_,trivial⟩
 ·simp(disch:=omega) only[go_sem,simprocAttr];rfl
 ·rfl
 ·rfl
theorem Zv1 {g:Gph}{o:Opt}(hm:Mod g)(h:Zd0 g=0)(ho:okO o=false):Zaa Tryz.prog 13 [ZaN g,ZbI o] (.tup [lvD lv0, .int 0, .int 7]):=by
 have h1:=Zea g hm;rw[h]at h1;have h2:=Zoq o;rw[ho]at h2;refine kE Tryz.func13 ?_;intro hat B X w0;refine kw1 kO kc0 (kc2 h1 h2) ?_;refine⟨_,rfl,⟨_,_,_,_,rfl,?_⟩,Zai ?_,Zai ?_,trivial⟩
 ·simp(disch:=omega) only[go_sem,simprocAttr];rfl
 ·rfl
 ·rfl
theorem Zv0 {g:Gph}{o:Opt}(hs:Zbs g)(ho:okO o=true){e:Int}(hS:Sx.SolveNo (Zck g) e)(he:e≠0):Zaa Tryz.prog 13 [ZaN g,ZbI o] (.tup [lvD lv0, .int 0, .int e]):=by
 have h1:=Zea g hs.md;rw[hs.ok]at h1;have h2:=Zoq o;rw[ho]at h2;have h3:=ZmR hs;have h4:=ZCr hs hS;refine kE Tryz.func13 ?_;intro hat B X w0;refine kw1 kO (kc1 he) (kc4 h1 h2 h3 h4) ?_;refine⟨_,rfl,⟨_,_,_,_,rfl,?_⟩,Zai ?_,Zai ?_,trivial⟩
 ·simp(disch:=omega) only[go_sem,simprocAttr];rfl
 ·rfl
 ·rfl
theorem ZpJ {g:Gph}{o:Opt}(hs:Zbs g)(hl:g.es.length<=11)(ho:okO o=true){r f:List Int}(hS:Sx.SolveOk (Zck g) r f):
  Zaa Tryz.prog 13 [ZaN g,ZbI o] (.tup [lvD (Zjb g o r).1, .int (Zjb g o r).2.1, .int (Zjb g o r).2.2]):=by
 have h1:=Zea g hs.md;rw[hs.ok]at h1;have h2:=Zoq o;rw[ho]at h2;have h3:=ZmR hs;have h4:=Zt1 hs hS;have h5:Zaa Tryz.prog 49 [.ag [.int g.ns.length,Zaj (ZaZ (Za3 g) (Za3 g).length)],Zab r] (.tup [lvD (Zay (pGr g) r).1, .int (Zay (pGr g) r).2]):=ZpE (pGr g) r;have hpl:=Zoy (g:=g);rw[Zjb];by_cases hb:(Zay (pGr g) r).2=0
 ·rw[if_pos hb];obtain⟨q1,q2⟩:=Zqy hb hs.n8 (by omega);have h6:=ZAS (Zay (pGr g) r).1 o.rd q1 q2;rw[hb]at h5;generalize(Zay (pGr g) r).1=b at*;generalize Zhh b o.rd=R at*;obtain⟨n,ls,ar,cs⟩:=b;obtain⟨⟨n',ls',ar',cs'⟩,R2,R3⟩:=R;refine kE Tryz.func13 ?_;intro hat B X w0;refine kw1 kO kc0 (kc6 h1 h2 h3 h4 h5 h6) ?_;refine⟨_,rfl,⟨_,_,_,_,rfl,?_⟩,Zai ?_,Zai ?_,trivial⟩
  ·simp(disch:=omega) only[go_sem,simprocAttr]
  ·rfl
  ·rfl
 ·rw[if_neg hb];generalize Zay (pGr g) r=b at*;obtain⟨⟨n,ls,ar,cs⟩,b2⟩:=b;dsimp only at hb h5;refine kE Tryz.func13 ?_;intro hat B X w0;refine kw1 kO (kc1 hb) (kc5 h1 h2 h3 h4 h5) ?_;refine⟨_,rfl,⟨_,_,_,_,rfl,?_⟩,Zai ?_,Zai ?_,trivial⟩
  ·simp(disch:=omega) only[go_sem,simprocAttr];rfl
  ·rfl
  ·rfl
end Go.Proofs.YtjjbhjnpeenbkaaGreatDoor.Gr
namespace Go.Proofs.YtjjbhjnpeenbkaaGreatDoor.Gr
open Go Go.PS Go.Proofs Go.Proofs.YtjjbhjnpeenbkaaGreatDoor
set_option maxRecDepth 100000
theorem ZiK {n:Nat}{cs:List D}(h:ZbD Tryz.prog (n+1) 9 cs):∃s:ByteArray,cs=[Za1 s]:=by
 have hu:Tryz.prog.underlying 9=some .string:=by kernel_rfl
 simp only[ZbD,hu]at h;exact h
theorem Zxk {n:Nat}{cs:List D}(h:ZbD Tryz.prog (n+1) 4 cs):∃b:Bool,cs=[.bool b]:=by
 have hu:Tryz.prog.underlying 4=some .bool:=by kernel_rfl
 simp only[ZbD,hu]at h;exact h
theorem Zxo {n:Nat}{cs:List D}(h:ZbD Tryz.prog (n+3) 64 cs):∃l:List Pt,cs=[.sl (l.map ptD)]:=by
 obtain⟨l,rfl,hl⟩:=Zli (e:=92) (by kernel_rfl) h;obtain⟨ys,rfl⟩:=Zj8 (f:=ptD) (l:=l) (λ d hd=>by
  obtain⟨es,rfl,_,he⟩:=hl d hd;obtain⟨_,_,rfl,h1,_,_,rfl,h2,rfl⟩:=ZiL (ts:=[9,3]) (by kernel_rfl) he;obtain⟨a,rfl⟩:=ZiK h1;obtain⟨b,rfl⟩:=Zdx h2;rw[ZFb];exact⟨⟨a,b⟩,rfl⟩)
 exact⟨ys,rfl⟩
theorem Zxn {n:Nat}{cs:List D}(h:ZbD Tryz.prog (n+5) 22 cs):∃l:List Nd,cs=[.sl (l.map ndD)]:=by
 obtain⟨l,rfl,hl⟩:=Zli (e:=66) (by kernel_rfl) h;obtain⟨ys,rfl⟩:=Zj8 (f:=ndD) (l:=l) (λ d hd=>by
  obtain⟨es,rfl,_,he⟩:=hl d hd;obtain⟨_,_,rfl,h1,_,_,rfl,h2,_,_,rfl,h3,_,_,rfl,h4,_,_,rfl,h5,_,_,rfl,h6,rfl⟩:=ZiL (ts:=[9,9,3,3,3,64]) (by kernel_rfl) he;obtain⟨a,rfl⟩:=ZiK h1;obtain⟨b,rfl⟩:=ZiK h2;obtain⟨c,rfl⟩:=Zdx h3;obtain⟨d,rfl⟩:=Zdx h4;obtain⟨e,rfl⟩:=Zdx h5;obtain⟨f,rfl⟩:=Zxo h6;rw[ZFa];exact⟨⟨a,b,c,d,e,f⟩,rfl⟩)
 exact⟨ys,rfl⟩
theorem Zxm {n:Nat}{cs:List D}(h:ZbD Tryz.prog (n+3) 23 cs):∃l:List Ed,cs=[.sl (l.map edD)]:=by
 obtain⟨l,rfl,hl⟩:=Zli (e:=61) (by kernel_rfl) h;obtain⟨ys,rfl⟩:=Zj8 (f:=edD) (l:=l) (λ d hd=>by
  obtain⟨es,rfl,_,he⟩:=hl d hd;obtain⟨_,_,rfl,h1,_,_,rfl,h2,_,_,rfl,h3,_,_,rfl,h4,_,_,rfl,h5,_,_,rfl,h6,_,_,rfl,h7,rfl⟩:=ZiL (ts:=[3,3,3,3,9,3,3]) (by kernel_rfl) he;obtain⟨a,rfl⟩:=Zdx h1;obtain⟨b,rfl⟩:=Zdx h2;obtain⟨c,rfl⟩:=Zdx h3;obtain⟨d,rfl⟩:=Zdx h4;obtain⟨e,rfl⟩:=ZiK h5;obtain⟨f,rfl⟩:=Zdx h6;obtain⟨g,rfl⟩:=Zdx h7;rw[ZE9];exact⟨⟨a,b,c,d,e,f,g⟩,rfl⟩)
 exact⟨ys,rfl⟩
theorem Zxl {n:Nat}{cs:List D}(h:ZbD Tryz.prog (n+3) 24 cs):∃l:List Cl,cs=[.sl (l.map clD)]:=by
 obtain⟨l,rfl,hl⟩:=Zli (e:=94) (by kernel_rfl) h;obtain⟨ys,rfl⟩:=Zj8 (f:=clD) (l:=l) (λ d hd=>by
  obtain⟨es,rfl,_,he⟩:=hl d hd;obtain⟨_,_,rfl,h1,_,_,rfl,h2,rfl⟩:=ZiL (ts:=[9,3]) (by kernel_rfl) he;obtain⟨a,rfl⟩:=ZiK h1;obtain⟨b,rfl⟩:=Zdx h2;rw[ZFc];exact⟨⟨a,b⟩,rfl⟩)
 exact⟨ys,rfl⟩
theorem Zp7 {x:D}(h:Zjx Tryz.prog 26 x):∃g:Gph,x=ZaN g:=by
 obtain⟨cs,h,rfl⟩:=h;obtain⟨_,_,rfl,h1,_,_,rfl,h2,_,_,rfl,h3,_,_,rfl,h4,_,_,rfl,h5,rfl⟩:=ZiL (ts:=[9,4,22,23,24]) (by kernel_rfl) h;obtain⟨a,rfl⟩:=ZiK h1;obtain⟨b,rfl⟩:=Zxk h2;obtain⟨c,rfl⟩:=Zxn h3;obtain⟨d,rfl⟩:=Zxm h4;obtain⟨e,rfl⟩:=Zxl h5;rw[ZE7];exact⟨⟨a,b,c,d,e⟩,rfl⟩
theorem Zp8 {x:D}(h:Zjx Tryz.prog 28 x):∃o:Opt,x=ZbI o:=by
 obtain⟨cs,h,rfl⟩:=h;obtain⟨_,_,rfl,h1,_,_,rfl,h2,_,_,rfl,h3,_,_,rfl,h4,_,_,rfl,h5,rfl⟩:=ZiL (ts:=[3,3,3,3,3]) (by kernel_rfl) h;obtain⟨a,rfl⟩:=Zdx h1;obtain⟨b,rfl⟩:=Zdx h2;obtain⟨c,rfl⟩:=Zdx h3;obtain⟨d,rfl⟩:=Zdx h4;obtain⟨e,rfl⟩:=Zdx h5;rw[ZE8];exact⟨⟨a,b,c,d,e⟩,rfl⟩
open Go.Cy (NA InN Zbk Za5)
attribute [local irreducible] Zad wpG Zaa Zag
theorem Zoc {g:Gph}(hs:Zbs g):Sx.nOk (Zck g)=true:=by
 have hbl:=ZfP g;have hbi:=Zqv hs.ok;have h256:=(ZeT hs.ok).1;have hn8:=hs.n8;rw[Zck];generalize Za3 g=l at*;have hlk:=Zg4 l l.length;have hbd:=ZiF (g:=g) (l:=l) (uJ _);simp only[Sx.nOk,uL,uF,yC,yS];refine⟨⟨by omega,by omega,by rw[hbd];omega⟩,λ b hb=>?_⟩;rw[Zbv,uD (uJ _)]at hb;obtain⟨i,hi,rfl⟩:=uP.1 hb;obtain⟨q1,q2⟩:=Zj2 hi;obtain⟨a,ha⟩:=Zac q1;obtain⟨e,he⟩:=Zac (l:=g.es) (k:=i) (by omega);rw[ZdW,ha,uF]at q2;have h1:=hbi a (uA ha);have h2:=Zns hs.ok he;rw[Zk9,ha,he];simp[Sx.bdIn];omega
theorem ZAG {g:Gph}(hs:Zbs g):Sx.SolveNo (Zck g) 9\/∃r f,Sx.SolveOk (Zck g) r f/\Sx.Best g.ns.length (Zck g).2 r f:=by
 have h:=Zoc hs;by_cases hp:∃p,Sx.PotB (Zck g).2 (Sx.zeros (Zck g).2) p
 ·exact .inr (Sx.solve_best (n:=g.ns.length) (l:=(Zck g).2) h hp)
 ·exact .inl (Sx.solve_none (n:=g.ns.length) (l:=(Zck g).2) h hp)
theorem ZAX {o:Opt}(h:okO o=true):0<=o.rd/\o.rd<=100:=by
 simp only[okO,Zgo,uL,uF]at h;omega
theorem Zte {g:Gph}(o:Opt)(hm:Mod g)(h8:g.ns.length<=8)(hl:g.es.length<=11):(∃lv n e,Zaa Tryz.prog 13 [ZaN g,ZbI o] (.tup [lvD lv, .int n, .int e])/\e≠0)\/
  ∃r f n,Zbs g/\okO o=true/\Sx.SolveOk (Zck g) r f/\Sx.Best g.ns.length (Zck g).2 r f/\(Zay (pGr g) r).2=0/\Zar (Zay (pGr g) r).1=true/\
   Zaa Tryz.prog 13 [ZaN g,ZbI o] (.tup [lvD (Zcl (Zbx (Zay (pGr g) r).1 o.rd.toNat)), .int n, .int 0]):=by
 by_cases hv:Zd0 g=0
 ·rcases ho:okO o with _|_
  ·exact .inl ⟨_,_,_,Zv1 hm hv ho,by decide⟩
  ·have hs:Zbs g:=⟨hm,hv,h8⟩;rcases ZAG hs with h|⟨r,f,hS,hB⟩
   ·exact .inl ⟨_,_,_,Zv0 hs ho h (by decide),by decide⟩
   ·have h:=ZpJ hs hl ho hS;rw[Zjb]at h;by_cases hb:(Zay (pGr g) r).2=0
    ·rw[if_pos hb,Zhh]at h;by_cases c:Zar (Zay (pGr g) r).1=true/\0<=o.rd/\o.rd<=100
     ·rw[if_pos c]at h;exact .inr ⟨r,f,_,hs,rfl,hS,hB,hb,c.1,h⟩
     ·rw[if_neg c]at h;exact .inl ⟨_,_,_,h,by decide⟩
    ·rw[if_neg hb]at h;exact .inl ⟨_,_,_,h,by decide⟩
 ·exact .inl ⟨_,_,_,ZvZ o hm hv,hv⟩
end Go.Proofs.YtjjbhjnpeenbkaaGreatDoor.Gr
namespace Go.Proofs.YtjjbhjnpeenbkaaGreatDoor.Gr
open Go Go.PS Go.Proofs Go.Proofs.YtjjbhjnpeenbkaaGreatDoor Go.Proofs.YtjjbhjnpeenbkaaGreatDoor.Al
set_option maxRecDepth 100000
attribute [local irreducible] Zad wpG Zaa Zag
theorem Zq4 (b:Lv):∀k,(ZdO b k).1=b.1
 |0=>rfl
 |k+1=>Zq4 b k
theorem Zvs (b:Lv)(n:Nat):∀k,(upB b n k).1=b.1
 |0=>rfl
 |k+1=>Zvs b n k
theorem ZEQ (b:Lv):(swB b).1=b.1:=(Zvs _ _ _).trans (Zq4 _ _)
theorem Zs3 (a:Lv):∀k,(Zc9 a k).1=a.1
 |0=>rfl
 |k+1=>(ZEQ _).trans (Zs3 a k)
theorem Zm7 (a:Lv):∀k,(Zbx a k).1=a.1
 |0=>rfl
 |k+1=>by
  rw[Zbx];split
  ·exact Zs3 a (k+1)
  ·exact Zm7 a k
theorem Zt5 :∀(f:Nat) (b:Lv) (i:Nat),(ZbL f b i).1=b.1:=by
 intro f
 induction f with
 |zero=>intro b i;rfl
 |succ f ih=>
  intro b i;rw[ZbL];split
  ·split
   ·exact(ih _ _).trans rfl
   ·exact ih _ _
  ·rfl
def Zbf (g:Gph):List Int:=g.ns.map (·.w)
theorem ZCo (g:Gph)(hl:g.ns.length<=1000):Zaa Tryz.prog 16 [ZaN g] (Zab (Zbf g)):=by
 obtain⟨wk,hwk⟩:∃wk:Nat->List Int,∀k,wk k=(g.ns.take k).map (·.w):=⟨_,λ _=>rfl⟩;have hwl:∀k,k<=g.ns.length->(wk k).length=k:=λ k h=>by rw[hwk,uC,yJ];omega
 refine kE Tryz.func16 ?_;intro hat B X w0;refine kw1 kO kc0 kc0 ?_;refine Zao _ (Zcy 3 901 1 rfl rfl) ?_;refine Zaf (λ(k:Nat)=>k<=g.ns.length) (λ k=>[(1, .ptr 1 0 0 0),(3, .ref 901 1 0 (wk k).length (wk k).length),(4, .int k)]) (λ k=>[(1, .cells [.d (Za1 g.nm), .d (.bool g.dir), .d (.sl (g.ns.map ndD)), .d (.sl (g.es.map edD)), .d (.sl (g.cs.map clD))]),(901, .row 1 ((wk k).map D.int))]) (λ k=>g.ns.length-k) 0 ?_ ?_ ?_
 ·exact uH _
 ·rw[show wk 0=[] by rw[hwk];rfl];exact kN kc0 []
 ·intro k hk;have h1:=hwl k hk;rcases uE k g.ns.length with hlt|hge
  ·obtain⟨x,hx⟩:=Zac hlt;have e1:wk (k+1)=wk k++[x.w]:=by rw[hwk,hwk,ZaA hx,uQ];rfl
   refine kw1 kO (kc2 hx @Zal) kc0 ?_;refine⟨k+1,?_,kN (kc6 e1 @uG.{0} @yL.{0} @uQ.{0,0} @uT.{0,0} @yH.{0,0}) [(901,20)],?_⟩
   ·exact hlt
   ·omega
  ·obtain rfl:k=g.ns.length:=by omega
   refine kw1 kO kc0 kc0 ?_;exact ZbF (o:=901) rfl rfl (by simp) (by rw[uD (by simp),hwk,yE];rfl)
theorem ZsZ {g:Gph}(h:Zd0 g=0){k:Nat}{n:Nd}(hn:g.ns[k]? =some n):1<=n.w/\n.w<=1048576/\1<=n.h/\n.h<=1048576:=by
 have h1:=Znx (ZeT h).2.1 k (uB.1 hn).1;rw[ZsY hn]at h1;split at h1
 ·cases h1
 ·split at h1
  ·cases h1
  ·split at h1
   ·contradiction
   ·split at h1
    ·cases h1
    ·rename_i hq;have e1:ZeP n.w=true:=by cases hw:ZeP n.w<;>simp_all
     have e2:ZeP n.h=true:=by cases hw:ZeP n.h<;>simp_all
     simp only[ZeP,uL,uF]at e1 e2;omega
theorem Zii {o:Opt}(h:okO o=true):(0<=o.nsep/\o.nsep<=1048576)/\0<=o.rsep/\o.rsep<=1048576:=by
 simp only[okO,Zgo,uL,uF]at h;omega
theorem ZBg {g:Gph}{o:Opt}{r:List Int}(hs:Zbs g)(ho:okO o=true)(hb:(Zay (pGr g) r).2=0)(hv:Zar (Zcl (Zbx (Zay (pGr g) r).1 o.rd.toNat))=true):
  VA (Zcl (Zbx (Zay (pGr g) r).1 o.rd.toNat)) (Zbf g) o.nsep:=by
 refine VA.of ?_;have h1:=Zii ho;have hn:(Zcl (Zbx (Zay (pGr g) r).1 o.rd.toNat)).1=g.ns.length:=by
  rw[Zcl,Zt5,Zm7,(built hb).eq];rfl
 rw[ZeS,hv,hn,szB,yD (by rw[Zbf,uC]),yD (by omega),show(Zbf g).any (λ w=> !szB w)=false from ?_]
 ·rfl
 ·rw[yS];intro w hw;obtain⟨n,hm,rfl⟩:=uP.1 hw;obtain⟨k,hk⟩:=yV.1 hm;have:=ZsZ hs.ok hk;simp[szB];omega
def Zez (g:Gph)(v:Int):Int:=match g.ns[v.toNat]? with
 |some n=>n.h
 |none=>0
theorem ZjW {g:Gph}{v:Nat}{n:Nd}(h:g.ns[v]? =some n):Zez g v=n.h:=by rw[Zez,uM,h]
def hN (g:Gph)(y:List Int):Nat->Int
 |0=>0
 |k+1=>match y[k]? with
  |some v=>if v<g.ns.length then(if hN g y k<Zez g v then Zez g v else hN g y k)else hN g y k
  |none=>hN g y k
def hL (g:Gph)(ls:List (List Int))(i:Nat):Int:=match ls[i]? with
 |some y=>hN g y y.length
 |none=>0
def ZaX (g:Gph)(ls:List (List Int))(sep:Int):Nat->Int
 |0=>0
 |k+1=>ZaX g ls sep k+(hL g ls k+sep)
def Zcv (g:Gph)(ls:List (List Int))(sep:Int)(k:Nat):List (Int×Int):=(List.range k).map λ i=>(ZaX g ls sep i,hL g ls i)
abbrev ZgV (p:Int×Int):D:= .ag [.int p.1, .int p.2]
theorem Zqh (g:Gph)(ls:List (List Int))(sep:Int)(k:Nat):(Zcv g ls sep k).length=k:=by simp[Zcv]
def Low (g:Gph):Prop:=∀n∈g.ns,0<=n.h/\n.h<=1048576
theorem Zy7 {g:Gph}(h:Low g)(v:Int):0<=Zez g v/\Zez g v<=1048576:=by
 rw[Zez];split
 ·rename_i n hn;exact h n (uA hn)
 ·decide
theorem Zy2 {g:Gph}(h:Low g)(y:List Int):∀k,0<=hN g y k/\hN g y k<=1048576:=by
 intro k
 induction k with
 |zero=>rw[hN];decide
 |succ k ih=>
  rw[hN];split
  ·rename_i v _;have:=Zy7 h v;split
   ·split
    ·exact this
    ·exact ih
   ·exact ih
  ·exact ih
theorem ZfX {g:Gph}(h:Low g)(ls:List (List Int))(i:Nat):0<=hL g ls i/\hL g ls i<=1048576:=by
 rw[hL];split
 ·exact Zy2 h _ _
 ·decide
theorem Zmo {g:Gph}(h:Low g)(ls:List (List Int)){sep:Int}(hs:0<=sep/\sep<=1048576):∀k:Nat,0<=ZaX g ls sep k/\ZaX g ls sep k<=2097152*(k:Int):=by
 intro k
 induction k with
 |zero=>rw[ZaX];decide
 |succ k ih=>
  have:=ZfX h ls k;rw[ZaX];omega
theorem ZwN (g:Gph)(ls:List (List Int))(ar:List Arc)(cs:List (List Int))(sep:Int)(h:Low g)(hs:0<=sep/\sep<=1048576)(hl:ls.length<=256)(hv:∀y∈ls,y.length<=100000/\∀v∈y,0<=v):
  Zaa Tryz.prog 67 [ZaN g, .ag [.int g.ns.length,Zae ls,Zaj ar,Zae cs], .int sep] (.sl ((Zcv g ls sep ls.length).map ZgV)):=by
 refine kE Tryz.func67 ?_;intro hat B X w0;refine kw1 kO kc0 kc0 ?_;refine Zao _ (Zcy 7 901 2 rfl rfl) ?_;refine Zaf (λ(k:Nat)=>k<=ls.length) (λ k=>[(2, .int sep),(3, .ptr 3 0 0 0),(4, .ptr 4 0 0 0),(7, .ref 901 2 0 (Zcv g ls sep k).length (Zcv g ls sep k).length),(8, .int (ZaX g ls sep k)),(15, .d (Zae ls)),(16, .int ls.length),(17, .int k)]) (λ k=>[(3, .cells [.d (Za1 g.nm), .d (.bool g.dir), .d (.sl (g.ns.map ndD)), .d (.sl (g.es.map edD)), .d (.sl (g.cs.map clD))]),(4, .cells [.int g.ns.length, .d (Zae ls), .d (Zaj ar), .d (Zae cs)]),(901, .row 2 ((Zcv g ls sep k).map ZgV))]) (λ k=>ls.length-k) 0 ?_ ?_ ?_
 ·exact uH _
 ·exact kN (kc5 @Zcv.eq_1 @jG @yH.{0,0} @uY.{0} @ZaX.eq_1) []
 ·intro k hk;have hbl:=Zqh g ls sep k;have ht:=Zmo h ls hs k;rcases uE k ls.length with hlt|hge
  ·obtain⟨y,hy⟩:=Zac hlt;obtain⟨hy1,hy2⟩:=hv y (uA hy);have hh:=ZfX h ls k;have eh:hL g ls k=hN g y y.length:=by rw[hL,hy]
   have et:ZaX g ls sep (k+1)=ZaX g ls sep k+(hL g ls k+sep):=rfl;have eb:Zcv g ls sep (k+1)=Zcv g ls sep k++[(ZaX g ls sep k,hL g ls k)]:=by rw[Zcv,Zcv,qN,uQ];rfl
   generalize hT:ZaX g ls sep k=T at*;refine kw1 kO (kc1 hy) kc0 ?_;refine Zaf (λ(j:Nat)=>j<=y.length) (λ j=>[(2, .int sep),(3, .ptr 3 0 0 0),(4, .ptr 4 0 0 0),(7, .ref 901 2 0 (Zcv g ls sep k).length (Zcv g ls sep k).length),(8, .int T),(11, .ptr 11 0 0 0),(15, .d (Zae ls)),(16, .int ls.length),(17, .int k),(23, .d (Zab y)),(24, .int y.length),(25, .int j)]) (λ j=>[(3, .cells [.d (Za1 g.nm), .d (.bool g.dir), .d (.sl (g.ns.map ndD)), .d (.sl (g.es.map edD)), .d (.sl (g.cs.map clD))]),(4, .cells [.int g.ns.length, .d (Zae ls), .d (Zaj ar), .d (Zae cs)]),(901, .row 2 ((Zcv g ls sep k).map ZgV)),(11, .cells [.int T, .int (hN g y j)])]) (λ j=>y.length-j) 0 ?_ ?_ ?_
   ·exact uH _
   ·exact kN (kc1 @hN.eq_1) []
   ·intro j hj;rcases uE j y.length with hjl|hjg
    ·obtain⟨v,hvj⟩:=Zac hjl;have hv0:=hy2 v (uA hvj);obtain⟨v,rfl⟩:∃m:Nat,v=m:=⟨v.toNat,by omega⟩;have es:hN g y (j+1)=if(v:Int)<g.ns.length then(if hN g y j<Zez g v then Zez g v else hN g y j)else hN g y j:=by rw[hN,hvj]
     by_cases c:(v:Int)<g.ns.length
     ·obtain⟨n,hn⟩:=Zac (l:=g.ns) (k:=v) (by omega);rw[if_pos c,ZjW hn]at es;refine kw1 kO (kc3 hvj c hn) kc0 ?_;refine⟨j+1,?_,kN (kc1 es) [],?_⟩
      ·exact hjl
      ·omega
     ·rw[if_neg c]at es;refine kw1 kO (kc2 hvj c) kc0 ?_;refine⟨j+1,?_,kN (kc1 es) [],?_⟩
      ·exact hjl
      ·omega
    ·obtain rfl:j=y.length:=by omega
     rw[<-eh];have htk:((Zcv g ls sep k).map ZgV).take k=(Zcv g ls sep k).map ZgV:=uD (by simp[hbl]);refine kw1 kO (kc2 htk hbl) kc0 ?_;refine⟨k+1,?_,kN (kc8 et eb @uG.{0} @yL.{0} @uQ.{0,0} @uT.{0,0} @yH.{0,0} hbl) [(901,47)],?_⟩
     ·exact hlt
     ·omega
  ·obtain rfl:k=ls.length:=by omega
   refine kw1 kO kc0 kc0 ?_;exact ZbF (o:=901) rfl rfl (by simp) (by rw[uD (by simp)])
end Go.Proofs.YtjjbhjnpeenbkaaGreatDoor.Gr
