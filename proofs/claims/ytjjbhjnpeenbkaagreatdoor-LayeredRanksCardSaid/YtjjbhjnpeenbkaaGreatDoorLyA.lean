/- Options; the skeleton of a graph. -/
import Derived.Test.YtjjbhjnpeenbkaaGreatDoorGrA
import Derived.Test.YtjjbhjnpeenbkaaGreatDoorA
import Derived.Test.YtjjbhjnpeenbkaaGreatDoorCyA
import Derived.Test.YtjjbhjnpeenbkaaGreatDoorSxZc
import Derived.Test.YtjjbhjnpeenbkaaGreatDoorSxQ
import Derived.Test.YtjjbhjnpeenbkaaGreatDoorG
import Derived.Test.YtjjbhjnpeenbkaaGreatDoorOrB
import Derived.Test.YtjjbhjnpeenbkaaGreatDoorCg
import Derived.Test.YtjjbhjnpeenbkaaGreatDoorPSHeap
import Derived.Lay
import Derived.Test.YtjjbhjnpeenbkaaGreatDoorAlH
import Derived.Test.YtjjbhjnpeenbkaaGreatDoorAlA
set_option linter.unusedSimpArgs false
set_option linter.unusedVariables false
set_option maxHeartbeats 16000000
namespace Go.Proofs.YtjjbhjnpeenbkaaGreatDoor.Gr
open Go Go.PS Go.Proofs Go.Proofs.YtjjbhjnpeenbkaaGreatDoor
set_option maxRecDepth 100000
attribute [local irreducible] Zad wpG Zaa Zah
structure Opt where
 md:Int
 nsep:Int
 rsep:Int
 mg:Int
 rd:Int
abbrev ZiS (o:Opt):D:= .ag [.int o.md, .int o.nsep, .int o.rsep, .int o.mg, .int o.rd]
def ZhM (m x:Int):Bool:=decide (0<=x)&&decide (x<=m)
def okO (o:Opt):Bool:=ZhM 4 o.md&&(ZhM 1048576 o.nsep&&(ZhM 1048576 o.rsep&&(ZhM 1048576 o.mg&&(ZhM 100 o.rd))))
theorem Zjq (m x:Int)(hm:0<=m):decide (x=if m<(if x<0 then 0 else x)then m else(if x<0 then 0 else x))=ZhM m x:=by
 rw[qV];simp only[ZhM,uF,uM];split<;>split<;>omega
theorem ZzT (o:Opt):Zaa Tryz.prog 46 [ZiS o] (.bool (okO o)):=by
 have e1:=Zjq 4 o.md (by decide);have e2:=Zjq 1048576 o.nsep (by decide);have e3:=Zjq 1048576 o.rsep (by decide);have e4:=Zjq 1048576 o.mg (by decide);have e5:=Zjq 100 o.rd (by decide);refine kE Tryz.func46 ?_;intro hat B X w0;refine kw1 kO (kc5 e1 e2 e3 e4 e5) kc0 ?_;exact Zai (by simp only[okO,Bool.and_true])
def Zht (g:Gph):Gr:=((g.ns.length:Int),g.es.map λ e=>(e.fr,e.to))
def Zdd (g:Gph)(k:Nat):List Arc:=(g.es.take k).map λ e=>(e.fr,e.to)
theorem Zud {g:Gph}{k:Nat}{e:Ed}(h:g.es[k]? =some e):Zdd g (k+1)=Zdd g k++[(e.fr,e.to)]:=by
 rw[Zdd,Zdd,ZaA h,uR];rfl
theorem Zub (g:Gph):Zdd g g.es.length=(Zht g).2:=by rw[Zdd,yH,Zht]
theorem Zuc (g:Gph){k:Nat}(h:k<=g.es.length):(Zdd g k).length=k:=by rw[Zdd,uD,yF];omega
theorem ZC1 (g:Gph)(hl:g.es.length<=1000000):Zaa Tryz.prog 95 [Zbf g] (gD (Zht g)):=by
 refine kE Tryz.func95 ?_;intro hat B X w0;refine kw1 kO kc0 kc0 ?_;refine Zaq _ (Zb9 3 1 901 2 rfl rfl rfl) ?_;refine Zae (λ(k:Nat)=>k<=g.es.length) (λ k=>[(2, .ptr 2 0 0 0),(3, .ptr 3 0 0 0),(11, .d (.sl (g.es.map edD))),(12, .int g.es.length),(13, .int k)]) (λ k=>[(2, .cells [.int 0, .nilS]),(3, .cells [.int g.ns.length, .ref 901 2 0 (Zdd g k).length (Zdd g k).length]),(901, .row 2 ((Zdd g k).map ZaX))]) (λ k=>g.es.length-k) 0 ?_ ?_ ?_
 ·exact uG _
 ·exact kN kc0 []
 ·intro k hk;have hln:=Zuc g hk;rcases uC k g.es.length with hlt|hge
  ·obtain⟨e,he⟩:=Zac hlt;have hs:=Zud he;have htk:((Zdd g k).map ZaX).take k=(Zdd g k).map ZaX:=uE (by simp[hln]);refine kw1 kO (kc3 he htk hln) kc0 ?_;refine⟨k+1,?_,eL [(901,25)] _ _ (by refine⟨?_,?_⟩<;>(repeat' first|exact fmn|refine fmc ⟨(by first|rfl|(simp(disch:=omega) only[go_sem,simprocAttr,inL,hs,uH,yL,uR,uS,yE,hln];first|done|omega|(congr 1;done))),?_⟩);done),?_⟩
   ·exact hlt
   ·omega
  ·obtain rfl:k=g.es.length:=by omega
   refine kw1 kO kc0 kc0 ?_;refine⟨_,_,_,_,rfl,?_⟩;simp(disch:=omega) only[go_sem,simprocAttr];rw[Zub,Zan];rfl
open Go.Cy (NA InN Zbn Za7)
def naF (g:Gph):List NA:=g.es.map λ e=>(e.fr.toNat,e.to.toNat)
def ZaV (g:Gph):List NA:=Za7 (naF g) (Zbn g.ns.length (naF g))
theorem Zff (g:Gph):(ZaV g).length=g.es.length:=by rw[ZaV,Go.Cy.flipN_len,naF,uD]
structure Zbp (g:Gph):Prop where
 md:Mod g
 ok:ZcW g=0
 n8:g.ns.length<=8
theorem ZeH {g:Gph}(h:ZcW g=0):g.es.length<=256/\fe (Zfu g) g.ns.length=0/\fe (Zfi g) g.es.length=0:=by
 rw[ZcW]at h;split at h
 ·cases h
 ·split at h
  ·cases h
  ·split at h
   ·contradiction
   ·rename_i h1;split at h
    ·contradiction
    ·exact⟨by omega,by omega,h⟩
theorem Zk4 {g:Gph}(h:ZcW g=0){k:Nat}{e:Ed}(he:g.es[k]? =some e):0<=e.fr/\e.fr<g.ns.length/\0<=e.to/\e.to<g.ns.length/\1<=e.wt/\e.wt<=1000/\1<=e.ln/\e.ln<=64:=by
 have h1:=ZqF (ZeH h).2.2 k (uB.1 he).1;rw[Zfi,he]at h1;dsimp only at h1;rw[ZfS]at h1;split at h1
 ·cases h1
 ·split at h1
  ·contradiction
  ·split at h1
   ·cases h1
   ·omega
theorem ZtK {g:Gph}(h:ZcW g=0):Zht g=((g.ns.length:Int),Cyc.castA (naF g)):=by
 rw[Zht,Cyc.castA,naF,gR]
 congr 1
 refine yN λ e he=>?_
 obtain⟨k,hk⟩:=gN.1 he;obtain⟨h1,_,h2,_⟩:=Zk4 h hk;simp only[Function.comp];rw[show((e.fr.toNat:Nat):Int)=e.fr by omega,show((e.to.toNat:Nat):Int)=e.to by omega]
theorem Zlq {g:Gph}(h:ZcW g=0):InN g.ns.length (naF g):=by
 intro a ha;obtain⟨e,he,rfl⟩:=uP.1 ha;obtain⟨k,hk⟩:=gN.1 he;obtain⟨h1,h2,h3,h4,_⟩:=Zk4 h hk;dsimp only;omega
theorem ZtL {g:Gph}(hs:Zbp g):gOk ((g.ns.length:Int),Cyc.castA (naF g))=true:=by
 have h1:=(ZeH hs.ok).1;have h2:=hs.n8;simp only[gOk,uM,uF,yI,qA];refine⟨⟨by omega,by omega,by rw[Cyc.castA_len,naF,uD];omega⟩,?_⟩;intro a ha;obtain⟨b,hb,rfl⟩:=uP.1 ha;have:=Zlq hs.ok b hb;simp[ZeO];omega
theorem ZvV {g:Gph}(h:ZcW g=0):InN g.ns.length (ZaV g):=by
 intro a ha;obtain⟨k,b,hk,rfl⟩:=Go.Cy.flipN_mem ha;have:=Zlq h b (uA hk);split
 ·dsimp only;omega
 ·exact this
theorem ZvU {g:Gph}(hs:Zbp g):∃s:D,Zaa Tryz.prog 94 [gD (Zht g)] (.tup [s,gD ((g.ns.length:Int),Cyc.castA (ZaV g))]):=by
 have h:=Cyc.Break8 g.ns.length (naF g) (ZtL hs) (Zlq hs.ok) (by rw[naF,uD];exact(ZeH hs.ok).1) hs.n8;rw[ZtK hs.ok];exact⟨_,h⟩
def Zdz (l:List NA)(i:Nat):Bool:=match l[i]? with
 |some a=>decide (a.1≠a.2)
 |none=>false
def ksF (l:List NA)(k:Nat):List Nat:=(List.range k).filter (Zdz l)
def ZhE (l:List NA)(i:Nat):Arc:=match l[i]? with
 |some a=>((a.1:Int),(a.2:Int))
 |none=>(0,0)
def ZaO (l:List NA)(k:Nat):List Arc:=(ksF l k).map (ZhE l)
def ZaI (l:List NA)(k:Nat):List Int:=(ksF l k).map λ(i:Nat)=>(i:Int)
theorem Zg3 {l:List NA}{k:Nat}:ksF l (k+1)=ksF l k++if Zdz l k then[k]else[]:=by
 rw[ksF,ksF,qP,gE];cases h:Zdz l k<;>simp[h]
theorem Zf1 (l:List NA)(k:Nat):(ksF l k).length<=k:=by
 have:=gT (Zdz l) (List.range k);rw[zW]at this;exact this
theorem Zgw {l:List NA}{k i:Nat}(h:i∈ksF l k):i<k/\Zdz l i=true:=by
 rw[ksF,Am,yA]at h;exact h
abbrev Zn1 (n:Nat)(l:List NA):D:= .ag [.int n,Zal (ZaO l l.length),Zab (ZaI l l.length)]
theorem Zmq {g:Gph}(hs:Zbp g):Zaa Tryz.prog 47 [Zbf g] (Zn1 g.ns.length (ZaV g)):=by
 obtain⟨h256,_,_⟩:=ZeH hs.ok;have h1:=ZC1 g (by omega);obtain⟨s,h2⟩:=ZvU hs;have hbl:=Zff g;generalize ZaV g=l at*;have hcl:(Cyc.castA l).length=l.length:=Cyc.castA_len l;refine kE Tryz.func47 ?_;intro hat B X w0;refine kw1 kO (kc1 hcl) (kc2 h1 h2) ?_;refine Zaq _ (Zb9 5 1 901 2 rfl rfl rfl) ?_;refine Zaq _ (Zb9 5 2 902 1 rfl rfl rfl) ?_;refine Zae (λ(k:Nat)=>k<=l.length) (λ k=>[(2, .ptr 2 0 0 0),(5, .ptr 5 0 0 0),(20, .d (Zal (Cyc.castA l))),(21, .int l.length),(22, .int k)]) (λ k=>[(2, .cells [.int 0, .nilS, .nilS]),(5, .cells [.int g.ns.length, .ref 901 2 0 (ZaO l k).length (ZaO l k).length, .ref 902 1 0 (ZaI l k).length (ZaI l k).length]),(901, .row 2 ((ZaO l k).map ZaX)),(902, .row 1 ((ZaI l k).map D.int))]) (λ k=>l.length-k) 0 ?_ ?_ ?_
 ·exact uG _
 ·exact eL [] _ _ (by refine⟨?_,?_⟩<;>(repeat' first|exact fmn|refine fmc ⟨(by first|rfl|(simp(disch:=omega) only[go_sem,simprocAttr,inL,ZaO,ZaI,ksF,jT,kH,yE,uW];first|done|omega|(congr 1;done))),?_⟩);done)
 ·intro k hk;have hlk:=Zf1 l k;have hl1:(ZaO l k).length<=256:=by rw[ZaO,uD];omega
  have hl2:(ZaI l k).length<=256:=by rw[ZaI,uD];omega
  rcases uC k l.length with hlt|hge
  ·obtain⟨a,ha⟩:=Zac hlt;have hp:(Cyc.castA l)[k]? =some ((a.1:Int),(a.2:Int)):=Cyc.castA_get ha;by_cases c:a.1=a.2
   ·have c':(a.1:Int)=a.2:=by omega
    have hn:Zdz l k=false:=by rw[Zdz,ha];simp[c]
    have e1:ZaO l (k+1)=ZaO l k:=by rw[ZaO,ZaO,Zg3,hn];simp
    have e2:ZaI l (k+1)=ZaI l k:=by rw[ZaI,ZaI,Zg3,hn];simp
    refine kw1 kO (kc3 hp hcl @c') kc0 ?_;refine⟨k+1,?_,kN (kc2 e1 e2) [],?_⟩
    ·exact hlt
    ·omega
   ·have c':¬(a.1:Int)=a.2:=by omega
    have hn:Zdz l k=true:=by rw[Zdz,ha];simp[c]
    have e1:ZaO l (k+1)=ZaO l k++[((a.1:Int),(a.2:Int))]:=by rw[ZaO,ZaO,Zg3,hn];simp[ZhE,ha]
    have e2:ZaI l (k+1)=ZaI l k++[(k:Int)]:=by rw[ZaI,ZaI,Zg3,hn];simp
    refine kw1 kO (kc4 hp hcl @c' @Zan) kc0 ?_;refine⟨k+1,?_,kN (kc7 e1 e2 @uH.{0} @yL.{0} @uR.{0,0} @uS.{0,0} @yE.{0,0}) [(901,37),(902,44)],?_⟩
    ·exact hlt
    ·omega
  ·obtain rfl:k=l.length:=by omega
   refine kw1 kO kc0 kc0 ?_;refine⟨_,_,_,_,rfl,?_⟩;simp(disch:=omega) only[go_sem,simprocAttr];rw[Zan,Zan]
def Zit (g:Gph)(l:List NA)(i:Nat):Sx.Bd:=match l[i]?,g.es[i]? with
 |some a,some e=>((a.1:Int),(a.2:Int),e.ln,e.wt)
 |_,_=>(0,0,0,0)
def Za4 (g:Gph)(l:List NA)(k:Nat):List Sx.Bd:=((ksF l l.length).take k).map (Zit g l)
def ZaC (g:Gph):Sx.Net:=((g.ns.length:Int),Za4 g (ZaV g) (ksF (ZaV g) (ZaV g).length).length)
theorem Zgi {g:Gph}{l:List NA}{k:Nat}(h:k<=(ksF l l.length).length):(Za4 g l k).length=k:=by
 rw[Za4,uD,yF];omega
theorem ZsX {g:Gph}(hs:Zbp g){r f:List Int}(hS:Sx.SolveOk (ZaC g) r f):Zaa Tryz.prog 48 [Zn1 g.ns.length (ZaV g),Zbf g] (.tup [Zab r,Zab f, .int 0]):=by
 obtain⟨n',hn',hr',hf',hS⟩:=hS;obtain⟨h256,_,_⟩:=ZeH hs.ok;have hbl:=Zff g;simp only[ZaC]at hn' hf' hS;generalize ZaV g=l at*;have hlk:=Zf1 l l.length;have hlb:=Zgi (g:=g) (l:=l) (uI _);rw[hlb]at hf' hS;obtain rfl:n'=g.ns.length:=by omega
 have hpl:(ZaO l l.length).length=(ksF l l.length).length:=by rw[ZaO,uD]
 have hel:(ZaI l l.length).length=(ksF l l.length).length:=by rw[ZaI,uD]
 refine kE Tryz.func48 ?_;intro hat B X w0;refine kw1 kO (kc1 hpl) kc0 ?_;refine Zaq _ (Zb9 7 1 901 4 rfl rfl rfl) ?_;refine Zae (λ(k:Nat)=>k<=(ksF l l.length).length) (λ k=>[(2, .ptr 2 0 0 0),(3, .ptr 3 0 0 0),(7, .ptr 7 0 0 0),(17, .d (Zal (ZaO l l.length))),(18, .int (ksF l l.length).length),(19, .int k)]) (λ k=>[(2, .cells [.int g.ns.length, .d (Zal (ZaO l l.length)), .d (Zab (ZaI l l.length))]),(3, .cells [.d (ZaL g.nm), .d (.bool g.dir), .d (.sl (g.ns.map ndD)), .d (.sl (g.es.map edD)), .d (.sl (g.cs.map clD))]),(7, .cells [.int g.ns.length, .ref 901 4 0 (Za4 g l k).length (Za4 g l k).length]),(901, .row 4 ((Za4 g l k).map Sx.bdD))]) (λ k=>(ksF l l.length).length-k) 0 ?_ ?_ ?_
 ·exact uG _
 ·exact kN (kc4 @Za4.eq_1 @yU.{0} @yE.{0,0} @uW.{0}) []
 ·intro k hk;have hl1:=Zgi (g:=g) hk;rcases uC k (ksF l l.length).length with hlt|hge
  ·obtain⟨i,hi⟩:=Zac hlt;obtain⟨q1,q2⟩:=Zgw (uA hi);obtain⟨a,ha⟩:=Zac q1;obtain⟨e,he⟩:=Zac (l:=g.es) (k:=i) (by omega);have p1:(ZaO l l.length)[k]? =some ((a.1:Int),(a.2:Int)):=by rw[ZaO,uJ,hi];simp[ZhE,ha]
   have p2:(ZaI l l.length)[k]? =some (i:Int):=by rw[ZaI,uJ,hi];rfl
   have e1:Za4 g l (k+1)=Za4 g l k++[((a.1:Int),(a.2:Int),e.ln,e.wt)]:=by
    rw[Za4,Za4,ZaA hi,uR];simp[Zit,ha,he]
   have htk:((Za4 g l k).map Sx.bdD).take k=(Za4 g l k).map Sx.bdD:=uE (by simp[hl1]);refine kw1 kO (kc7 p1 p2 he hpl hel hl1 htk) kc0 ?_;refine⟨k+1,?_,kN (kc7 e1 @uH.{0} @yL.{0} @uR.{0,0} @uS.{0,0} @yE.{0,0} hl1) [(901,45)],?_⟩
   ·exact hlt
   ·omega
  ·obtain rfl:k=(ksF l l.length).length:=by omega
   refine Zaq _ (Zc2 901 4 ((Za4 g l (ksF l l.length).length).map Sx.bdD) rfl (ZcS _ rfl) (by decide)) ?_;have htk0:((Za4 g l (ksF l l.length).length).map Sx.bdD).take (ksF l l.length).length=(Za4 g l (ksF l l.length).length).map Sx.bdD:=uE (by simp[hl1]);refine kw1 kO (kc3 htk0 @qN.{0} hl1) (kc1 (kmc [(2000,950),(2001,951)] hS)) ?_;exact⟨_,rfl,Zch (o:=950) rfl rfl (by simp[Sx.intsL,hr']) (by rw[uE (by simp[Sx.intsL,hr'])]),Zch (o:=951) rfl rfl (by simp[Sx.intsL,hf']) (by rw[uE (by simp[Sx.intsL,hf'])]),Zaf rfl,trivial⟩
theorem ZA7 {g:Gph}(hs:Zbp g){e:Int}(hS:Sx.SolveNo (ZaC g) e):Zaa Tryz.prog 48 [Zn1 g.ns.length (ZaV g),Zbf g] (.tup [.sl [], .sl [], .int e]):=by
 unfold Sx.SolveNo at hS;obtain⟨h256,_,_⟩:=ZeH hs.ok;have hbl:=Zff g;simp only[ZaC]at hS;generalize ZaV g=l at*;have hlk:=Zf1 l l.length;have hlb:=Zgi (g:=g) (l:=l) (uI _);have hpl:(ZaO l l.length).length=(ksF l l.length).length:=by rw[ZaO,uD]
 have hel:(ZaI l l.length).length=(ksF l l.length).length:=by rw[ZaI,uD]
 refine kE Tryz.func48 ?_;intro hat B X w0;refine kw1 kO (kc1 hpl) kc0 ?_;refine Zaq _ (Zb9 7 1 901 4 rfl rfl rfl) ?_;refine Zae (λ(k:Nat)=>k<=(ksF l l.length).length) (λ k=>[(2, .ptr 2 0 0 0),(3, .ptr 3 0 0 0),(7, .ptr 7 0 0 0),(17, .d (Zal (ZaO l l.length))),(18, .int (ksF l l.length).length),(19, .int k)]) (λ k=>[(2, .cells [.int g.ns.length, .d (Zal (ZaO l l.length)), .d (Zab (ZaI l l.length))]),(3, .cells [.d (ZaL g.nm), .d (.bool g.dir), .d (.sl (g.ns.map ndD)), .d (.sl (g.es.map edD)), .d (.sl (g.cs.map clD))]),(7, .cells [.int g.ns.length, .ref 901 4 0 (Za4 g l k).length (Za4 g l k).length]),(901, .row 4 ((Za4 g l k).map Sx.bdD))]) (λ k=>(ksF l l.length).length-k) 0 ?_ ?_ ?_
 ·exact uG _
 ·exact kN (kc4 @Za4.eq_1 @yU.{0} @yE.{0,0} @uW.{0}) []
 ·intro k hk;have hl1:=Zgi (g:=g) hk;rcases uC k (ksF l l.length).length with hlt|hge
  ·obtain⟨i,hi⟩:=Zac hlt;obtain⟨q1,q2⟩:=Zgw (uA hi);obtain⟨a,ha⟩:=Zac q1;obtain⟨e,he⟩:=Zac (l:=g.es) (k:=i) (by omega);have p1:(ZaO l l.length)[k]? =some ((a.1:Int),(a.2:Int)):=by rw[ZaO,uJ,hi];simp[ZhE,ha]
   have p2:(ZaI l l.length)[k]? =some (i:Int):=by rw[ZaI,uJ,hi];rfl
   have e1:Za4 g l (k+1)=Za4 g l k++[((a.1:Int),(a.2:Int),e.ln,e.wt)]:=by
    rw[Za4,Za4,ZaA hi,uR];simp[Zit,ha,he]
   have htk:((Za4 g l k).map Sx.bdD).take k=(Za4 g l k).map Sx.bdD:=uE (by simp[hl1]);refine kw1 kO (kc7 p1 p2 he hpl hel hl1 htk) kc0 ?_;refine⟨k+1,?_,kN (kc7 e1 @uH.{0} @yL.{0} @uR.{0,0} @uS.{0,0} @yE.{0,0} hl1) [(901,45)],?_⟩
   ·exact hlt
   ·omega
  ·obtain rfl:k=(ksF l l.length).length:=by omega
   refine Zaq _ (Zc2 901 4 ((Za4 g l (ksF l l.length).length).map Sx.bdD) rfl (ZcS _ rfl) (by decide)) ?_;have htk0:((Za4 g l (ksF l l.length).length).map Sx.bdD).take (ksF l l.length).length=(Za4 g l (ksF l l.length).length).map Sx.bdD:=uE (by simp[hl1]);refine kw1 kO (kc3 htk0 @qN.{0} hl1) (kc1 (kmc [(2000,950),(2001,951)] hS)) ?_;exact⟨_,rfl,rfl,rfl,Zaf rfl,trivial⟩
theorem ZlM (a b:List Int):Zaa Tryz.prog 31 [Zab a,Zab b] (.bool (decide (a=b))):=by
 refine kE Tryz.func31 ?_;intro hat B X w0;have hl:=ZaY 0 hat rfl;rw[uD]at hl;by_cases hab:a.length=b.length
 ·have hab':(a.length:Int)=b.length:=by omega
  refine kw1 kO (kc1 @hab') kc0 ?_;refine Zae (λ(k:Nat)=>k<=a.length/\a.take k=b.take k) (λ k=>[(0, .d (Zab a)),(1, .d (Zab b)),(5, .int k)]) (λ k=>[]) (λ k=>a.length-k) 0 ?_ ?_ ?_
  ·exact⟨uG _,rfl⟩
  ·exact kN kc0 []
  ·rintro k ⟨hk,hinv⟩;rcases uC k a.length with hlt|hge
   ·obtain⟨x,hx⟩:=Zac hlt;obtain⟨y,hy⟩:=Zac (l:=b) (k:=k) (by omega);by_cases c:x=y
    ·subst c;refine kw1 kO (kc2 hx hy) kc0 ?_;refine⟨k+1,?_,kN kc0 [],?_⟩
     ·exact⟨hlt,by rw[ZaA hx,ZaA hy,hinv]⟩
     ·omega
    ·refine kw1 kO (kc3 hx hy c) kc0 ?_;exact Zai (by rw[uU (ZgR hx hy c)])
   ·refine kw1 kO kc0 kc0 ?_;refine Zai ?_;rw[uE hge,uE (by omega)]at hinv;rw[yB hinv]
 ·have hab':¬(a.length:Int)=b.length:=by omega
  refine kw1 kO (kc1 @hab') kc0 ?_;exact Zai (by rw[uU (λ h=>hab (by rw[h]))])
def Zcj (m:Nat)(ks:List Nat)(f:List Int):Nat->List Int
 |0=>List.replicate m 0
 |k+1=>(Zcj m ks f k).set (ks[k]?.getD 0) (f[k]?.getD 0)
theorem ZkI (m:Nat)(ks:List Nat)(f:List Int):∀k,(Zcj m ks f k).length=m:=by
 intro k
 induction k with
 |zero=>simp[Zcj]
 |succ k ih=>rw[Zcj,yJ,ih]
def ZeM (g:Gph)(f:List Int):List Int:=Zcj g.es.length (ksF (ZaV g) (ZaV g).length) f (ksF (ZaV g) (ZaV g).length).length
theorem Zpb {g:Gph}(hm:Mod g)(h:ZcW g≠0):Zaa Tryz.prog 29 [Zbf g] (.tup [.sl [], .sl [], .int (ZcW g)]):=by
 have h1:=Zlb g hm;refine kE Tryz.func29 ?_;intro hat B X w0;refine kw1 kO (kc1 h) (kc1 h1) ?_;exact⟨_,rfl,rfl,rfl,Zaf rfl,trivial⟩
theorem Zpc {g:Gph}(hs:Zbp g){e:Int}(hS:Sx.SolveNo (ZaC g) e)(he:e≠0):Zaa Tryz.prog 29 [Zbf g] (.tup [.sl [], .sl [], .int e]):=by
 have h1:=Zlb g hs.md;rw[hs.ok]at h1;have h2:=Zmq hs;have h3:=ZA7 hs hS;refine kE Tryz.func29 ?_;intro hat B X w0;refine kw1 kO (kc1 he) (kc3 h1 h2 h3) ?_;exact⟨_,rfl,rfl,rfl,Zaf rfl,trivial⟩
theorem Zl8 {g:Gph}(hs:Zbp g){r f:List Int}(hS:Sx.SolveOk (ZaC g) r f):Zaa Tryz.prog 29 [Zbf g] (.tup [Zab r,Zab (ZeM g f), .int 0]):=by
 have h1:=Zlb g hs.md;rw[hs.ok]at h1;have h2:=Zmq hs;have h3:=ZsX hs hS;obtain⟨n',hn',hr',hf',_⟩:=hS;obtain⟨h256,_,_⟩:=ZeH hs.ok;have hbl:=Zff g;rw[ZeM];simp only[ZaC]at hf';rw[Zgi (uI _)]at hf';generalize ZaV g=l at*;have hlk:=Zf1 l l.length;have hel:(ZaI l l.length).length=(ksF l l.length).length:=by rw[ZaI,uD]
 refine kE Tryz.func29 ?_;intro hat B X w0;refine kw1 kO (kc1 hel) (kc3 h1 h2 h3) ?_;refine Zae (λ(k:Nat)=>k<=(ksF l l.length).length) (λ k=>[(7, .d (Zab r)),(8, .d (Zab f)),(10, .ref 33 1 0 g.es.length g.es.length),(35, .d (Zab (ZaI l l.length))),(36, .int (ksF l l.length).length),(37, .int k)]) (λ k=>[(33, .row 1 ((Zcj g.es.length (ksF l l.length) f k).map D.int))]) (λ k=>(ksF l l.length).length-k) 0 ?_ ?_ ?_
 ·exact uG _
 ·exact kN (kc2 @Zcj.eq_1 @jJ.{0,0}) []
 ·intro k hk;have hal:=ZkI g.es.length (ksF l l.length) f k;rcases uC k (ksF l l.length).length with hlt|hge
  ·obtain⟨i,hi⟩:=Zac hlt;obtain⟨x,hx⟩:=Zac (l:=f) (k:=k) (by omega);obtain⟨q1,q2⟩:=Zgw (uA hi);have p2:(ZaI l l.length)[k]? =some (i:Int):=by rw[ZaI,uJ,hi];rfl
   obtain⟨y,hy⟩:=Zac (l:=Zcj g.es.length (ksF l l.length) f k) (k:=i) (by omega);have e1:Zcj g.es.length (ksF l l.length) f (k+1)=(Zcj g.es.length (ksF l l.length) f k).set i x:=by rw[Zcj,hi,hx];rfl
   refine kw1 kO (kc5 p2 hel hx hy hal) kc0 ?_;refine⟨k+1,?_,kN (kc2 e1 @yR.{0,0}) [],?_⟩
   ·exact hlt
   ·omega
  ·obtain rfl:k=(ksF l l.length).length:=by omega
   refine kw1 kO kc0 kc0 ?_;exact⟨_,rfl,rfl,Zch (o:=33) rfl rfl (by simp[hal]) (by rw[uE (by simp[hal])]),Zaf rfl,trivial⟩
abbrev Zm1 (c:UInt8):Nd:=⟨⟨#[c]⟩,⟨#[97]⟩,20000,10000,-1,[]⟩
abbrev ZqC (t:Int):Ed:=⟨0,t,-1,-1,⟨#[]⟩,1,1⟩
abbrev ZdI :Gph:=⟨⟨#[103]⟩,true,[Zm1 97,Zm1 98,Zm1 99],[ZqC 1,ZqC 2],[]⟩
theorem Zxd :Mod ZdI:=by
 refine⟨by decide,λ n hn=>?_,λ e he=>?_,λ c hc=>by cases hc⟩
 ·simp only[yD,gP,Cc]at hn;rcases hn with rfl|rfl|rfl<;>exact⟨by decide,by decide,λ p hp=>by cases hp⟩
 ·simp only[yD,gP,Cc]at he;rcases he with rfl|rfl<;>decide
theorem Zxf :ZcW ZdI=0:=by decide+kernel
theorem ZqD :Zbp ZdI:=⟨Zxd,Zxf,by decide⟩
theorem Zm2 :ZaV ZdI=[(0,1),(0,2)]:=by decide+kernel
theorem Zxe :ZaC ZdI=(3,[(0,1,1,1),(0,2,1,1)]):=by rw[ZaC,Zm2];decide+kernel
theorem ZqE :Sx.SolveOk (ZaC ZdI) [0,1,1] [1,1]:=by
 rw[Zxe];exact Sx.solve_of 3 _ 10 _ _ (by decide+kernel) (by decide+kernel) (by decide+kernel) (by decide+kernel) (by decide+kernel) (by decide+kernel)
theorem Zxg :Zaa Tryz.prog 29 [Zbf ZdI] (.tup [Zab [0,1,1],Zab [1,1], .int 0]):=by
 have h:=Zl8 ZqD ZqE;rw[show ZeM ZdI [1,1]=[1,1] by rw[ZeM,Zm2];decide+kernel]at h;exact h
end Go.Proofs.YtjjbhjnpeenbkaaGreatDoor.Gr
namespace Go.Proofs.YtjjbhjnpeenbkaaGreatDoor.Gr
open Go Go.PS Go.Proofs Go.Proofs.YtjjbhjnpeenbkaaGreatDoor
set_option maxRecDepth 100000
attribute [local irreducible] Zad wpG Zaa Zah
theorem Zio {α:Type}{q:α->Bool}{l:List α}{k:Nat}{x:α}(h:l[k]? =some x)(hq:q x=false):l.all q=false:=by
 rw[List.all_eq_false];exact⟨x,uA h,by rw[hq];decide⟩
theorem ZkJ {α:Type}{q:α->Bool}{l:List α}{k:Nat}(hk:l.length<=k)(h:∀(j:Nat) y,j<k->l[j]? =some y->q y=true):l.all q=true:=by
 rw[uZ];intro x hx;obtain⟨j,hj⟩:=gN.1 hx;exact h j x (by have:=(uB.1 hj).1;omega) hj
def ptF (p:Pt):Bool:=decide (p.nm.size<=40)
def ndF (n:Nd):Bool:=decide (n.nm.size<=40/\n.lb.size<=80/\n.ps.length<=9)&&n.ps.all ptF
def edF (e:Ed):Bool:=decide (e.lb.size<=80/\e.ln<=4)
def clF (c:Cl):Bool:=decide (c.nm.size<=40)
def ZfV (g:Gph)(n m:Nat):Bool:=decide (g.ns.length<=n/\g.es.length<=m/\g.cs.length<=6/\g.nm.size<=40)&&(g.ns.all ndF&&(g.es.all edF&&g.cs.all clF))
theorem ZqG (g:Gph)(n m:Nat)(hn:n<=100)(hm:m<=100):Zaa Tryz.prog 11 [Zbf g, .int n, .int m] (.bool (ZfV g n m)):=by
 by_cases c0:g.ns.length<=n/\g.es.length<=m/\g.cs.length<=6/\g.nm.size<=40
 ·obtain⟨a1,a2,a3,a4⟩:=c0;rw[ZfV,yB ⟨a1,a2,a3,a4⟩,kC];have b1:¬(n:Int)<g.ns.length:=by omega
  have b2:¬(m:Int)<g.es.length:=by omega
  have b3:¬(6:Int)<g.cs.length:=by omega
  have b4:¬(40:Int)<g.nm.size:=by omega
  refine kE Tryz.func11 ?_;intro hat B X w0;refine kw1 kO (kc4 b1 b2 b3 b4) kc0 ?_;refine Zae (λ(k:Nat)=>k<=g.ns.length/\∀(j:Nat) y,j<k->g.ns[j]? =some y->ndF y=true) (λ k=>[(3, .ptr 3 0 0 0),(7, .int k)]) (λ k=>[(3, .cells [.d (ZaL g.nm), .d (.bool g.dir), .d (.sl (g.ns.map ndD)), .d (.sl (g.es.map edD)), .d (.sl (g.cs.map clD))])]) (λ k=>g.ns.length-k) 0 ?_ ?_ ?_
  ·exact⟨uG _,λ j y h=>by omega⟩
  ·exact kN kc0 []
  ·rintro k ⟨hk,hinv⟩;rcases uC k g.ns.length with hlt|hge
   ·obtain⟨x,hx⟩:=Zac hlt;by_cases c1:x.nm.size<=40/\x.lb.size<=80/\x.ps.length<=9
    ·obtain⟨d1,d2,d3⟩:=c1;have f1:¬(40:Int)<x.nm.size:=by omega
     have f2:¬(80:Int)<x.lb.size:=by omega
     have f3:¬(9:Int)<x.ps.length:=by omega
     have hx2:ndF x=x.ps.all ptF:=by rw[ndF,yB ⟨d1,d2,d3⟩,kC]
     refine kw1 kO (kc4 hx f1 f2 f3) kc0 ?_;refine Zae (λ(j:Nat)=>j<=x.ps.length/\∀(i:Nat) y,i<j->x.ps[i]? =some y->ptF y=true) (λ j=>[(3, .ptr 3 0 0 0),(7, .int k),(8, .ptr 8 0 0 0),(9, .int j)]) (λ j=>[(3, .cells [.d (ZaL g.nm), .d (.bool g.dir), .d (.sl (g.ns.map ndD)), .d (.sl (g.es.map edD)), .d (.sl (g.cs.map clD))]),(8, .cells [.d (ZaL x.nm), .d (ZaL x.lb), .int x.w, .int x.h, .int x.cl, .d (.sl (x.ps.map ptD))])]) (λ j=>x.ps.length-j) 0 ?_ ?_ ?_
     ·exact⟨uG _,λ j y h=>by omega⟩
     ·exact kN kc0 []
     ·rintro j ⟨hj,hjn⟩;rcases uC j x.ps.length with hjl|hjg
      ·obtain⟨p,hp⟩:=Zac hjl;by_cases c2:p.nm.size<=40
       ·have f4:¬(40:Int)<p.nm.size:=by omega
        refine kw1 kO (kc2 hp f4) kc0 ?_;refine⟨j+1,?_,kN kc0 [],?_⟩
        ·exact⟨hjl,Zbj hjn hp (yB c2)⟩
        ·omega
       ·have f4:(40:Int)<p.nm.size:=by omega
        refine kw1 kO (kc2 hp f4) kc0 ?_;exact Zai (by rw[Zio hx (by rw[hx2];exact Zio hp (uU c2))];rfl)
      ·refine kw1 kO kc0 kc0 ?_;refine⟨k+1,?_,kN kc0 [],?_⟩
       ·exact⟨hlt,Zbj hinv hx (by rw[hx2];exact ZkJ hjg hjn)⟩
       ·omega
    ·have hx2:ndF x=false:=by rw[ndF,uU c1];rfl
     refine kw kO (kc1 hx) kc0 ?_
     repeat' first|exact True.intro|refine Bn.mk ?_ ?_|intro hc
     all_goals first|(refine Zai ?_;rw[Zio hx hx2];rfl)|(exfalso;omega)
   ·refine kw1 kO kc0 kc0 ?_;refine Zae (λ(j:Nat)=>j<=g.es.length/\∀(i:Nat) y,i<j->g.es[i]? =some y->edF y=true) (λ j=>[(3, .ptr 3 0 0 0),(10, .int j)]) (λ j=>[(3, .cells [.d (ZaL g.nm), .d (.bool g.dir), .d (.sl (g.ns.map ndD)), .d (.sl (g.es.map edD)), .d (.sl (g.cs.map clD))])]) (λ j=>g.es.length-j) 0 ?_ ?_ ?_
    ·exact⟨uG _,λ j y h=>by omega⟩
    ·exact kN kc0 []
    ·rintro j ⟨hj,hjn⟩;rw[ZkJ hge hinv,kC];rcases uC j g.es.length with hjl|hjg
     ·obtain⟨e,he⟩:=Zac hjl;by_cases c2:e.lb.size<=80
      ·have f4:¬(80:Int)<e.lb.size:=by omega
       by_cases c3:e.ln<=4
       ·have f5:¬(4:Int)<e.ln:=by omega
        refine kw1 kO (kc3 he f4 f5) kc0 ?_;refine⟨j+1,?_,kN kc0 [],?_⟩
        ·exact⟨hjl,Zbj hjn he (yB ⟨c2,c3⟩)⟩
        ·omega
       ·have f5:(4:Int)<e.ln:=by omega
        refine kw1 kO (kc3 he f4 f5) kc0 ?_;exact Zai (by rw[Zio he (uU (λ h=>c3 h.2))];rfl)
      ·have f4:(80:Int)<e.lb.size:=by omega
       refine kw1 kO (kc2 he f4) kc0 ?_;exact Zai (by rw[Zio he (uU (λ h=>c2 h.1))];rfl)
     ·rw[ZkJ hjg hjn,kC];refine kw1 kO kc0 kc0 ?_;refine Zae (λ(j:Nat)=>j<=g.cs.length/\∀(i:Nat) y,i<j->g.cs[i]? =some y->clF y=true) (λ j=>[(3, .ptr 3 0 0 0),(11, .int j)]) (λ j=>[(3, .cells [.d (ZaL g.nm), .d (.bool g.dir), .d (.sl (g.ns.map ndD)), .d (.sl (g.es.map edD)), .d (.sl (g.cs.map clD))])]) (λ j=>g.cs.length-j) 0 ?_ ?_ ?_
      ·exact⟨uG _,λ j y h=>by omega⟩
      ·exact kN kc0 []
      ·rintro j ⟨hj,hjn⟩;rcases uC j g.cs.length with hjl|hjg
       ·obtain⟨c,hc⟩:=Zac hjl;by_cases c2:c.nm.size<=40
        ·have f4:¬(40:Int)<c.nm.size:=by omega
         refine kw1 kO (kc2 hc f4) kc0 ?_;refine⟨j+1,?_,kN kc0 [],?_⟩
         ·exact⟨hjl,Zbj hjn hc (yB c2)⟩
         ·omega
        ·have f4:(40:Int)<c.nm.size:=by omega
         refine kw1 kO (kc2 hc f4) kc0 ?_;exact Zai (by rw[Zio hc (uU c2)])
       ·refine kw1 kO kc0 kc0 ?_;exact Zai (by rw[ZkJ hjg hjn])
 ·rw[ZfV,uU c0,Av];refine kE Tryz.func11 ?_;intro hat B X w0;refine kw kO kc0 kc0 ?_
  repeat' first|exact True.intro|refine Bn.mk ?_ ?_|intro hc
  all_goals first|exact Zai rfl|(exfalso;omega)
theorem Zm3 {g:Gph}{n m:Nat}(h:ZfV g n m=true):g.ns.length<=n/\g.es.length<=m/\Mod g/\∀e∈g.es,e.ln<=4:=by
 simp only[ZfV,uM,uF,uZ]at h;obtain⟨⟨h1,h2,h3,h4⟩,h5,h6,h7⟩:=h;refine⟨h1,h2,⟨by omega,λ x hx=>?_,λ e he=>?_,λ c hc=>?_⟩,λ e he=>?_⟩
 ·have:=h5 x hx;simp only[ndF,uM,uF,uZ]at this;obtain⟨⟨g1,g2,g3⟩,g4⟩:=this;exact⟨by omega,by omega,λ p hp=>by have:=g4 p hp;rw[ptF,uF]at this;omega⟩
 ·have:=h6 e he;rw[edF,uF]at this;omega
 ·have:=h7 c hc;rw[clF,uF]at this;omega
 ·have:=h6 e he;rw[edF,uF]at this;omega
open Go.Cy (NA InN Zbn Za7)
def pGr (g:Gph):Gr:=((g.ns.length:Int),ZaO (ZaV g) (ZaV g).length)
def Zj4 (g:Gph)(o:Opt)(r:List Int):Lv×Int×Int:=if(ZaP (pGr g) r).2=0 then Zh6 (ZaP (pGr g) r).1 o.rd else(lv0,0,2)
theorem Zsp {g:Gph}:(pGr g).2.length<=g.es.length:=by
 have:=Zf1 (ZaV g) (ZaV g).length;rw[pGr,ZaO,uD];have:=Zff g;omega
theorem Zzw (r:List Int)(a:Arc)(k:Int):∀n,((Zap r a n).filter λ x=>decide (some x=some k)).length<=if at0 r a.1+1+n<=k then 0 else 1:=by
 intro n
 induction n with
 |zero=>simp[Zap]
 |succ n ih=>
  rw[ZnG,gE,uH];have h:([at0 r a.1+1+(n:Int)].filter λ x=>decide (some x=some k)).length=if at0 r a.1+1+(n:Int)=k then 1 else 0:=by
   by_cases c:at0 r a.1+1+(n:Int)=k<;>simp[c]
  rw[h];split at ih<;>split<;>split<;>omega
theorem Zys {r:List Int}{l:List Arc}{k:Int}:∀e,e<=l.length->((ZaE r l e).filter λ x=>decide (some x=some k)).length<=r.length+e:=by
 intro e
 induction e with
 |zero=>
  intro _;have:=gT (λ x=>decide (some x=some k)) r;simpa[ZaE]using this
 |succ e ih=>
  intro h;obtain⟨a,ha⟩:=Zac (show e<l.length by omega);rw[Zin ha,gE,uH];have h1:=ih (by omega);have h2:=Zzw r a k (ZaH r a);split at h2<;>omega
theorem ZjK (all:List Int)(k:Nat):(Za6 all k).length=(all.filter λ x=>decide (some x=some (k:Int))).length:=by
 have e:(List.range all.length).map (λ v=>all[v]?)=all.map some:=by
  refine yS λ i=>?_
  rw[uJ,uJ];rcases uC i all.length with h|h
  ·obtain⟨x,hx⟩:=Zac h;rw[qC h,hx];show some (all[i]?)=_;rw[hx];rfl
  ·rw[uL (by simpa using h),uL h];rfl
 have:=gB (λ l=>(l.filter λ o=>decide (o=some (k:Int))).length) e;rw[List.filter_map,List.filter_map,uD,uD]at this;rw[Za6,uD];exact this
theorem ZvX {g:Gr}{r:List Int}(h:(ZaP g r).2=0)(hl:g.1+g.2.length<=19):wide (ZaP g r).1/\(ZaP g r).1.2.2.1.length<=700:=by
 have b:=built h;have hA:=ZkH b.gap g.2.length (uI _);have hB:=ZkN b.gap g.2.length (uI _);have h1:=b.big;have h2:=b.len;rw[b.eq];dsimp only;refine⟨λ y hy=>?_,?_⟩
 ·rw[ZrV,ZbN]at hy;obtain⟨k,_,rfl⟩:=uP.1 hy;have h3:=Zys (r:=r) (l:=g.2) (k:=(k:Int)) _ (uI _);rw[<-ZjK]at h3;omega
 ·show(ZaU r g.2 g.2.length).length<=700;omega
theorem ZvY {g:Gph}{r:List Int}(h:(ZaP (pGr g) r).2=0)(h8:g.ns.length<=8)(hl:g.es.length<=11):wide (ZaP (pGr g) r).1/\(ZaP (pGr g) r).1.2.2.1.length<=700:=ZvX h (by
 have hpl:=Zsp (g:=g);have e1:(pGr g).1=g.ns.length:=rfl;omega)
theorem ZuS {g:Gph}{o:Opt}(hs:Zbp g)(hl:g.es.length<=11)(ho:okO o=true){r f:List Int}(hS:Sx.SolveOk (ZaC g) r f):
  Zaa Tryz.prog 13 [Zbf g,ZiS o] (.tup [lvD (Zj4 g o r).1, .int (Zj4 g o r).2.1, .int (Zj4 g o r).2.2]):=by
 have h1:=Zlb g hs.md;rw[hs.ok]at h1;have h2:=ZzT o;rw[ho]at h2;have h3:=Zmq hs;have h4:=ZsX hs hS;have h5:Zaa Tryz.prog 49 [.ag [.int g.ns.length,Zal (ZaO (ZaV g) (ZaV g).length)],Zab r] (.tup [lvD (ZaP (pGr g) r).1, .int (ZaP (pGr g) r).2]):=Zo6 (pGr g) r;have hpl:=Zsp (g:=g);rw[Zj4];by_cases hb:(ZaP (pGr g) r).2=0
 ·rw[if_pos hb];obtain⟨q1,q2⟩:=ZvY hb hs.n8 (by omega);have h6:=ZzH (ZaP (pGr g) r).1 o.rd q1 q2;rw[hb]at h5;generalize(ZaP (pGr g) r).1=b at*;generalize Zh6 b o.rd=R at*;obtain⟨n,ls,ar,cs⟩:=b;obtain⟨⟨n',ls',ar',cs'⟩,R2,R3⟩:=R;refine kE Tryz.func13 ?_;intro hat B X w0;refine kw1 kO kc0 (kc6 h1 h2 h3 h4 h5 h6) ?_;refine⟨_,rfl,⟨_,_,_,_,rfl,?_⟩,Zaf ?_,Zaf ?_,trivial⟩
  ·simp(disch:=omega) only[go_sem,simprocAttr]
  ·rfl
  ·rfl
 ·rw[if_neg hb];generalize ZaP (pGr g) r=b at*;obtain⟨⟨n,ls,ar,cs⟩,b2⟩:=b;dsimp only at hb h5;refine kE Tryz.func13 ?_;intro hat B X w0;refine kw1 kO (kc1 hb) (kc5 h1 h2 h3 h4 h5) ?_;refine⟨_,rfl,⟨_,_,_,_,rfl,?_⟩,Zaf ?_,Zaf ?_,trivial⟩
  ·simp(disch:=omega) only[go_sem,simprocAttr];rfl
  ·rfl
  ·rfl
end Go.Proofs.YtjjbhjnpeenbkaaGreatDoor.Gr
namespace Go.Proofs.YtjjbhjnpeenbkaaGreatDoor.Gr
open Go Go.PS Go.Proofs Go.Proofs.YtjjbhjnpeenbkaaGreatDoor
set_option maxRecDepth 100000
theorem Ziy {n:Nat}{cs:List D}(h:Zbo Tryz.prog (n+1) 9 cs):∃s:ByteArray,cs=[ZaL s]:=by
 have hu:Tryz.prog.underlying 9=some .string:=by kernel_rfl
 simp only[Zbo,hu]at h;exact h
theorem Zwc {n:Nat}{cs:List D}(h:Zbo Tryz.prog (n+1) 4 cs):∃b:Bool,cs=[.bool b]:=by
 have hu:Tryz.prog.underlying 4=some .bool:=by kernel_rfl
 simp only[Zbo,hu]at h;exact h
theorem Zwh {n:Nat}{cs:List D}(h:Zbo Tryz.prog (n+3) 64 cs):∃l:List Pt,cs=[.sl (l.map ptD)]:=by
 obtain⟨l,rfl,hl⟩:=ZkY (e:=92) (by kernel_rfl) h;obtain⟨ys,rfl⟩:=ZiN (f:=ptD) (l:=l) (λ d hd=>by
  obtain⟨es,rfl,_,he⟩:=hl d hd;obtain⟨_,_,rfl,h1,_,_,rfl,h2,rfl⟩:=Zjo (ts:=[9,3]) (by kernel_rfl) he;obtain⟨a,rfl⟩:=Ziy h1;obtain⟨b,rfl⟩:=ZeS h2;rw[ZDU];exact⟨⟨a,b⟩,rfl⟩)
 exact⟨ys,rfl⟩
theorem Zwg {n:Nat}{cs:List D}(h:Zbo Tryz.prog (n+5) 22 cs):∃l:List Nd,cs=[.sl (l.map ndD)]:=by
 obtain⟨l,rfl,hl⟩:=ZkY (e:=66) (by kernel_rfl) h;obtain⟨ys,rfl⟩:=ZiN (f:=ndD) (l:=l) (λ d hd=>by
  obtain⟨es,rfl,_,he⟩:=hl d hd;obtain⟨_,_,rfl,h1,_,_,rfl,h2,_,_,rfl,h3,_,_,rfl,h4,_,_,rfl,h5,_,_,rfl,h6,rfl⟩:=Zjo (ts:=[9,9,3,3,3,64]) (by kernel_rfl) he;obtain⟨a,rfl⟩:=Ziy h1;obtain⟨b,rfl⟩:=Ziy h2;obtain⟨c,rfl⟩:=ZeS h3;obtain⟨d,rfl⟩:=ZeS h4;obtain⟨e,rfl⟩:=ZeS h5;obtain⟨f,rfl⟩:=Zwh h6;rw[ZDT];exact⟨⟨a,b,c,d,e,f⟩,rfl⟩)
 exact⟨ys,rfl⟩
theorem Zwe {n:Nat}{cs:List D}(h:Zbo Tryz.prog (n+3) 23 cs):∃l:List Ed,cs=[.sl (l.map edD)]:=by
 obtain⟨l,rfl,hl⟩:=ZkY (e:=61) (by kernel_rfl) h;obtain⟨ys,rfl⟩:=ZiN (f:=edD) (l:=l) (λ d hd=>by
  obtain⟨es,rfl,_,he⟩:=hl d hd;obtain⟨_,_,rfl,h1,_,_,rfl,h2,_,_,rfl,h3,_,_,rfl,h4,_,_,rfl,h5,_,_,rfl,h6,_,_,rfl,h7,rfl⟩:=Zjo (ts:=[3,3,3,3,9,3,3]) (by kernel_rfl) he;obtain⟨a,rfl⟩:=ZeS h1;obtain⟨b,rfl⟩:=ZeS h2;obtain⟨c,rfl⟩:=ZeS h3;obtain⟨d,rfl⟩:=ZeS h4;obtain⟨e,rfl⟩:=Ziy h5;obtain⟨f,rfl⟩:=ZeS h6;obtain⟨g,rfl⟩:=ZeS h7;rw[ZDS];exact⟨⟨a,b,c,d,e,f,g⟩,rfl⟩)
 exact⟨ys,rfl⟩
theorem Zwd {n:Nat}{cs:List D}(h:Zbo Tryz.prog (n+3) 24 cs):∃l:List Cl,cs=[.sl (l.map clD)]:=by
 obtain⟨l,rfl,hl⟩:=ZkY (e:=94) (by kernel_rfl) h;obtain⟨ys,rfl⟩:=ZiN (f:=clD) (l:=l) (λ d hd=>by
  obtain⟨es,rfl,_,he⟩:=hl d hd;obtain⟨_,_,rfl,h1,_,_,rfl,h2,rfl⟩:=Zjo (ts:=[9,3]) (by kernel_rfl) he;obtain⟨a,rfl⟩:=Ziy h1;obtain⟨b,rfl⟩:=ZeS h2;rw[ZDV];exact⟨⟨a,b⟩,rfl⟩)
 exact⟨ys,rfl⟩
theorem Zpq {x:D}(h:Zjc Tryz.prog 26 x):∃g:Gph,x=Zbf g:=by
 obtain⟨cs,h,rfl⟩:=h;obtain⟨_,_,rfl,h1,_,_,rfl,h2,_,_,rfl,h3,_,_,rfl,h4,_,_,rfl,h5,rfl⟩:=Zjo (ts:=[9,4,22,23,24]) (by kernel_rfl) h;obtain⟨a,rfl⟩:=Ziy h1;obtain⟨b,rfl⟩:=Zwc h2;obtain⟨c,rfl⟩:=Zwg h3;obtain⟨d,rfl⟩:=Zwe h4;obtain⟨e,rfl⟩:=Zwd h5;rw[ZDQ];exact⟨⟨a,b,c,d,e⟩,rfl⟩
open Go.Cy (NA InN Zbn Za7)
attribute [local irreducible] Zad wpG Zaa Zah
theorem Zh1 {g:Gph}(hs:Zbp g):Sx.nOk (ZaC g)=true:=by
 have hbl:=Zff g;have hbi:=ZvV hs.ok;have h256:=(ZeH hs.ok).1;have hn8:=hs.n8;rw[ZaC];generalize ZaV g=l at*;have hlk:=Zf1 l l.length;have hbd:=Zgi (g:=g) (l:=l) (uI _);simp only[Sx.nOk,uM,uF,yI,qA];refine⟨⟨by omega,by omega,by rw[hbd];omega⟩,λ b hb=>?_⟩;rw[Za4,uE (uI _)]at hb;obtain⟨i,hi,rfl⟩:=uP.1 hb;obtain⟨q1,q2⟩:=Zgw hi;obtain⟨a,ha⟩:=Zac q1;obtain⟨e,he⟩:=Zac (l:=g.es) (k:=i) (by omega);rw[Zdz,ha,uF]at q2;have h1:=hbi a (uA ha);have h2:=Zk4 hs.ok he;rw[Zit,ha,he];simp[Sx.bdIn];omega
theorem Zzv {g:Gph}(hs:Zbp g):Sx.SolveNo (ZaC g) 9\/∃r f,Sx.SolveOk (ZaC g) r f/\Sx.Best g.ns.length (ZaC g).2 r f:=by
 have h:=Zh1 hs;by_cases hp:∃p,Sx.PotB (ZaC g).2 (Sx.zeros (ZaC g).2) p
 ·exact .inr (Sx.solve_best (n:=g.ns.length) (l:=(ZaC g).2) h hp)
 ·exact .inl (Sx.solve_none (n:=g.ns.length) (l:=(ZaC g).2) h hp)
end Go.Proofs.YtjjbhjnpeenbkaaGreatDoor.Gr
namespace Go.Proofs.YtjjbhjnpeenbkaaGreatDoor.Gr
open Go Go.PS Go.Proofs Go.Proofs.YtjjbhjnpeenbkaaGreatDoor Go.Proofs.YtjjbhjnpeenbkaaGreatDoor.Al
set_option maxRecDepth 100000
attribute [local irreducible] Zad wpG Zaa Zah
def ZcY (g:Gph):List Int:=g.ns.map (·.w)
def Zfp (g:Gph)(v:Int):Int:=match g.ns[v.toNat]? with
 |some n=>n.h
 |none=>0
theorem Zq3 {g:Gph}{v:Nat}{n:Nd}(h:g.ns[v]? =some n):Zfp g v=n.h:=by rw[Zfp,uK,h]
def hN (g:Gph)(y:List Int):Nat->Int
 |0=>0
 |k+1=>match y[k]? with
  |some v=>if v<g.ns.length then(if hN g y k<Zfp g v then Zfp g v else hN g y k)else hN g y k
  |none=>hN g y k
def hL (g:Gph)(ls:List (List Int))(i:Nat):Int:=match ls[i]? with
 |some y=>hN g y y.length
 |none=>0
def ZdD (g:Gph)(ls:List (List Int))(sep:Int):Nat->Int
 |0=>0
 |k+1=>ZdD g ls sep k+(hL g ls k+sep)
def Zcs (g:Gph)(ls:List (List Int))(sep:Int)(k:Nat):List (Int×Int):=(List.range k).map λ i=>(ZdD g ls sep i,hL g ls i)
abbrev ZgX (p:Int×Int):D:= .ag [.int p.1, .int p.2]
theorem ZpC (g:Gph)(ls:List (List Int))(sep:Int)(k:Nat):(Zcs g ls sep k).length=k:=by simp[Zcs]
def Low (g:Gph):Prop:=∀n∈g.ns,0<=n.h/\n.h<=1048576
theorem ZxT {g:Gph}(h:Low g)(v:Int):0<=Zfp g v/\Zfp g v<=1048576:=by
 rw[Zfp];split
 ·rename_i n hn;exact h n (uA hn)
 ·decide
theorem ZxP {g:Gph}(h:Low g)(y:List Int):∀k,0<=hN g y k/\hN g y k<=1048576:=by
 intro k
 induction k with
 |zero=>rw[hN];decide
 |succ k ih=>
  rw[hN];split
  ·rename_i v _;have:=ZxT h v;split
   ·split
    ·exact this
    ·exact ih
   ·exact ih
  ·exact ih
theorem Znh {g:Gph}(h:Low g)(ls:List (List Int))(i:Nat):0<=hL g ls i/\hL g ls i<=1048576:=by
 rw[hL];split
 ·exact ZxP h _ _
 ·decide
theorem Zug {g:Gph}(h:Low g)(ls:List (List Int)){sep:Int}(hs:0<=sep/\sep<=1048576):∀k:Nat,0<=ZdD g ls sep k/\ZdD g ls sep k<=2097152*(k:Int):=by
 intro k
 induction k with
 |zero=>rw[ZdD];decide
 |succ k ih=>
  have:=Znh h ls k;rw[ZdD];omega
theorem ZvE (g:Gph)(ls:List (List Int))(ar:List Arc)(cs:List (List Int))(sep:Int)(h:Low g)(hs:0<=sep/\sep<=1048576)(hl:ls.length<=256)(hv:∀y∈ls,y.length<=100000/\∀v∈y,0<=v):
  Zaa Tryz.prog 67 [Zbf g, .ag [.int g.ns.length,Zag ls,Zal ar,Zag cs], .int sep] (.sl ((Zcs g ls sep ls.length).map ZgX)):=by
 refine kE Tryz.func67 ?_;intro hat B X w0;refine kw1 kO kc0 kc0 ?_;refine Zaq _ (Zc3 7 901 2 rfl rfl) ?_;refine Zae (λ(k:Nat)=>k<=ls.length) (λ k=>[(2, .int sep),(3, .ptr 3 0 0 0),(4, .ptr 4 0 0 0),(7, .ref 901 2 0 (Zcs g ls sep k).length (Zcs g ls sep k).length),(8, .int (ZdD g ls sep k)),(15, .d (Zag ls)),(16, .int ls.length),(17, .int k)]) (λ k=>[(3, .cells [.d (ZaL g.nm), .d (.bool g.dir), .d (.sl (g.ns.map ndD)), .d (.sl (g.es.map edD)), .d (.sl (g.cs.map clD))]),(4, .cells [.int g.ns.length, .d (Zag ls), .d (Zal ar), .d (Zag cs)]),(901, .row 2 ((Zcs g ls sep k).map ZgX))]) (λ k=>ls.length-k) 0 ?_ ?_ ?_
 ·exact uG _
 ·exact kN (kc5 @Zcs.eq_1 @jT @yE.{0,0} @uW.{0} @ZdD.eq_1) []
 ·intro k hk;have hbl:=ZpC g ls sep k;have ht:=Zug h ls hs k;rcases uC k ls.length with hlt|hge
  ·obtain⟨y,hy⟩:=Zac hlt;obtain⟨hy1,hy2⟩:=hv y (uA hy);have hh:=Znh h ls k;have eh:hL g ls k=hN g y y.length:=by rw[hL,hy]
   have et:ZdD g ls sep (k+1)=ZdD g ls sep k+(hL g ls k+sep):=rfl;have eb:Zcs g ls sep (k+1)=Zcs g ls sep k++[(ZdD g ls sep k,hL g ls k)]:=by rw[Zcs,Zcs,qP,uR];rfl
   generalize hT:ZdD g ls sep k=T at*;refine kw1 kO (kc1 hy) kc0 ?_;refine Zae (λ(j:Nat)=>j<=y.length) (λ j=>[(2, .int sep),(3, .ptr 3 0 0 0),(4, .ptr 4 0 0 0),(7, .ref 901 2 0 (Zcs g ls sep k).length (Zcs g ls sep k).length),(8, .int T),(11, .ptr 11 0 0 0),(15, .d (Zag ls)),(16, .int ls.length),(17, .int k),(23, .d (Zab y)),(24, .int y.length),(25, .int j)]) (λ j=>[(3, .cells [.d (ZaL g.nm), .d (.bool g.dir), .d (.sl (g.ns.map ndD)), .d (.sl (g.es.map edD)), .d (.sl (g.cs.map clD))]),(4, .cells [.int g.ns.length, .d (Zag ls), .d (Zal ar), .d (Zag cs)]),(901, .row 2 ((Zcs g ls sep k).map ZgX)),(11, .cells [.int T, .int (hN g y j)])]) (λ j=>y.length-j) 0 ?_ ?_ ?_
   ·exact uG _
   ·exact kN (kc1 @hN.eq_1) []
   ·intro j hj;rcases uC j y.length with hjl|hjg
    ·obtain⟨v,hvj⟩:=Zac hjl;have hv0:=hy2 v (uA hvj);obtain⟨v,rfl⟩:∃m:Nat,v=m:=⟨v.toNat,by omega⟩;have es:hN g y (j+1)=if(v:Int)<g.ns.length then(if hN g y j<Zfp g v then Zfp g v else hN g y j)else hN g y j:=by rw[hN,hvj]
     by_cases c:(v:Int)<g.ns.length
     ·obtain⟨n,hn⟩:=Zac (l:=g.ns) (k:=v) (by omega);rw[if_pos c,Zq3 hn]at es;refine kw1 kO (kc3 hvj c hn) kc0 ?_;refine⟨j+1,?_,kN (kc1 es) [],?_⟩
      ·exact hjl
      ·omega
     ·rw[if_neg c]at es;refine kw1 kO (kc2 hvj c) kc0 ?_;refine⟨j+1,?_,kN (kc1 es) [],?_⟩
      ·exact hjl
      ·omega
    ·obtain rfl:j=y.length:=by omega
     rw[<-eh];have htk:((Zcs g ls sep k).map ZgX).take k=(Zcs g ls sep k).map ZgX:=uE (by simp[hbl]);refine kw1 kO (kc2 htk hbl) kc0 ?_;refine⟨k+1,?_,kN (kc8 et eb @uH.{0} @yL.{0} @uR.{0,0} @uS.{0,0} @yE.{0,0} hbl) [(901,47)],?_⟩
     ·exact hlt
     ·omega
  ·obtain rfl:k=ls.length:=by omega
   refine kw1 kO kc0 kc0 ?_;exact Zch (o:=901) rfl rfl (by simp) (by rw[uE (by simp)])
abbrev Bx :=Int×Int×Int×Int
abbrev bxD (b:Bx):D:= .ag [.int b.1, .int b.2.1, .int b.2.2.1, .int b.2.2.2]
def inC (n:Int):Bool:=decide (-268435456<=n)&&decide (n<=268435456)
def plB (g:Gph)(y:List Int)(b:Int×Int)(v:Int):Bx:=match g.ns[v.toNat]? with
 |some n=>(at0 y v-n.w/2,b.1+(b.2-n.h)/2,at0 y v-n.w/2+n.w,b.1+(b.2-n.h)/2+n.h)
 |none=>(0,0,0,0)
theorem ZAi {g:Gph}{y:List Int}{b:Int×Int}{v:Nat}{n:Nd}(h:g.ns[v]? =some n):plB g y b v=(at0 y v-n.w/2,b.1+(b.2-n.h)/2,at0 y v-n.w/2+n.w,b.1+(b.2-n.h)/2+n.h):=by rw[plB,uK,h]
abbrev PS3 :=List Bx×Int×Bool
def plS (g:Gph)(y:List Int)(b:Int×Int)(σ:PS3)(v:Int):PS3:=if v<g.ns.length then(σ.1.set v.toNat (plB g y b v),if σ.2.2=false\/(plB g y b v).1<σ.2.1 then(plB g y b v).1 else σ.2.1,true)else σ
def plI (g:Gph)(y:List Int)(b:Int×Int)(r:List Int)(σ:PS3):Nat->PS3
 |0=>σ
 |j+1=>match r[j]? with
  |some v=>plS g y b (plI g y b r σ j) v
  |none=>plI g y b r σ j
theorem ZAk {g:Gph}{y:List Int}{b:Int×Int}{r:List Int}{σ:PS3}{j:Nat}{v:Int}(h:r[j]? =some v):plI g y b r σ (j+1)=plS g y b (plI g y b r σ j) v:=by rw[plI,h]
def plO (g:Gph)(y:List Int)(ls:List (List Int))(sep:Int):Nat->PS3
 |0=>(List.replicate g.ns.length (0,0,0,0),0,false)
 |k+1=>match ls[k]? with
  |some r=>plI g y (ZdD g ls sep k,hL g ls k) r (plO g y ls sep k) r.length
  |none=>plO g y ls sep k
theorem ZAn {g:Gph}{y:List Int}{ls:List (List Int)}{sep:Int}{k:Nat}{r:List Int}(h:ls[k]? =some r):plO g y ls sep (k+1)=plI g y (ZdD g ls sep k,hL g ls k) r (plO g y ls sep k) r.length:=by rw[plO,h]
theorem ZAo (g:Gph)(y:List Int)(b:Int×Int)(σ:PS3)(v:Int):(plS g y b σ v).1.length=σ.1.length:=by
 rw[plS];split
 ·exact yJ
 ·rfl
theorem Zsx (g:Gph)(y:List Int)(b:Int×Int)(r:List Int)(σ:PS3):∀j,(plI g y b r σ j).1.length=σ.1.length:=by
 intro j
 induction j with
 |zero=>rfl
 |succ j ih=>
  rw[plI];split
  ·rw[ZAo,ih]
  ·exact ih
theorem ZAl (g:Gph)(y:List Int)(ls:List (List Int))(sep:Int):∀k,(plO g y ls sep k).1.length=g.ns.length:=by
 intro k
 induction k with
 |zero=>exact qX
 |succ k ih=>
  rw[plO];split
  ·rw[Zsx,ih]
  ·exact ih
def Mid (σ:PS3):Prop:=(∀b,b∈σ.1->(-68719476736<=b.1/\b.1<=68719476736)/\-68719476736<=b.2.2.1/\b.2.2.1<=68719476736)/\-68719476736<=σ.2.1/\σ.2.1<=68719476736
structure PlOk (g:Gph)(y:List Int)(ls:List (List Int)):Prop where
 nd:∀n,n∈g.ns->1<=n.w/\n.w<=1048576/\1<=n.h/\n.h<=1048576
 y0:∀v:Nat,0<=at0 y v/\at0 y v<=34359738368
 hl:ls.length<=256
 hv:∀r,r∈ls->r.length<=100000/\∀v,v∈r->0<=v/\v<y.length
theorem PlOk.low {g:Gph}{y:List Int}{ls:List (List Int)}(h:PlOk g y ls):Low g:=λ n hn=>by have:=h.nd n hn;omega
theorem ZAj {g:Gph}{y:List Int}{ls:List (List Int)}(h:PlOk g y ls)(b:Int×Int)(v:Nat):(-68719476736<=(plB g y b v).1/\(plB g y b v).1<=68719476736)/\-68719476736<=(plB g y b v).2.2.1/\(plB g y b v).2.2.1<=68719476736:=by
 rw[plB,uK];split
 ·rename_i n hn;have:=h.nd n (uA hn);have:=h.y0 v;dsimp only;omega
 ·dsimp only;omega
theorem ZAp {g:Gph}{y:List Int}{ls:List (List Int)}(h:PlOk g y ls)(b:Int×Int){σ:PS3}(hm:Mid σ)(v:Int)(hv:0<=v):Mid (plS g y b σ v):=by
 obtain⟨v,rfl⟩:∃m:Nat,v=m:=⟨v.toNat,by omega⟩;have:=ZAj h b v;rw[plS];split
 ·refine⟨λ c hc=>?_,?_⟩
  ·rcases jY hc with hc|rfl
   ·exact hm.1 c hc
   ·exact this
  ·dsimp only;split
   ·exact this.1
   ·exact hm.2
 ·exact hm
theorem Zsy {g:Gph}{y:List Int}{ls:List (List Int)}(h:PlOk g y ls)(b:Int×Int){r:List Int}(hr:∀v,v∈r->0<=v){σ:PS3}(hm:Mid σ):∀j,Mid (plI g y b r σ j):=by
 intro j
 induction j with
 |zero=>exact hm
 |succ j ih=>
  rw[plI];split
  ·rename_i v hv;exact ZAp h b ih v (hr v (uA hv))
  ·exact ih
theorem ZAm {g:Gph}{y:List Int}{ls:List (List Int)}(h:PlOk g y ls)(sep:Int):∀k,Mid (plO g y ls sep k):=by
 intro k
 induction k with
 |zero=>
  refine⟨λ b hb=>?_,show(-68719476736:Int)<=0/\(0:Int)<=68719476736 by decide⟩;rw[plO]at hb;rw[(List.mem_replicate.1 hb).2];decide
 |succ k ih=>
  rw[plO];split
  ·rename_i r hr;exact Zsy h _ (λ v hv=>((h.hv r (uA hr)).2 v hv).1) ih _
  ·exact ih
def shB (m:Int)(b:Bx):Bx:=(b.1-m,b.2.1,b.2.2.1-m,b.2.2.2)
def okB (b:Bx):Bool:=(inC b.1&&inC b.2.1)&&((inC b.2.2.1&&inC b.2.2.2)&&(decide (b.1<=b.2.2.1)&&decide (b.2.1<=b.2.2.2)))
def shN (m:Int)(l:List Bx):Nat->List Bx
 |0=>l
 |k+1=>match l[k]? with
  |some b=>(shN m l k).set k (shB m b)
  |none=>shN m l k
theorem ZtD (m:Int)(l:List Bx):∀k,(shN m l k).length=l.length:=by
 intro k
 induction k with
 |zero=>rfl
 |succ k ih=>
  rw[shN];split
  ·rw[yJ,ih]
  ·exact ih
theorem ZtC (m:Int)(l:List Bx):∀k j,(shN m l k)[j]? =if j<k then l[j]?.map (shB m)else l[j]? :=by
 intro k
 induction k with
 |zero=>intro j;rfl
 |succ k ih=>
  intro j;rw[shN];split
  ·rename_i b hb;by_cases c:j=k
   ·subst c;rw[gU (by rw[ZtD];exact(uB.1 hb).1),if_pos (by omega),hb];rfl
   ·rw[jH (by omega),ih];by_cases d:j<k
    ·rw[if_pos d,if_pos (by omega)]
    ·rw[if_neg d,if_neg (by omega)]
  ·rename_i hb;rw[ih];by_cases c:j=k
   ·subst c;rw[if_neg (by omega),if_pos (by omega),hb];rfl
   ·by_cases d:j<k
    ·rw[if_pos d,if_pos (by omega)]
    ·rw[if_neg d,if_neg (by omega)]
theorem ZCr (m:Int)(l:List Bx):shN m l l.length=l.map (shB m):=by
 refine yS λ j=>?_
 rw[ZtC,uJ];split
 ·rfl
 ·rw[uL (by omega)];rfl
theorem ZsN (x y:Int):Zaa Tryz.prog 120 [.ag [.int x, .int y]] (.bool (inC x&&inC y)):=by
 refine kE Tryz.func120 ?_;intro hat B X w0;refine kw kO kc0 kc0 ?_
 repeat' first|exact True.intro|refine Bn.mk ?_ ?_|intro hc
 all_goals
  refine Zai ?_;rw[qV];simp[inC]
  try omega
theorem Zv0 (b:Bx):Zaa Tryz.prog 68 [bxD b] (.bool (okB b)):=by
 have h1:=ZsN b.1 b.2.1;have h2:=ZsN b.2.2.1 b.2.2.2;refine kE Tryz.func68 ?_;intro hat B X w0;rcases c1:(inC b.1&&inC b.2.1)with _|_<;>rw[c1]at h1
 ·refine kw1 kO kc0 (kc2 h1 h2) ?_;exact Zai (by rw[okB,c1];rfl)
 ·rcases c2:(inC b.2.2.1&&inC b.2.2.2)with _|_<;>rw[c2]at h2
  ·refine kw1 kO kc0 (kc2 h1 h2) ?_;exact Zai (by rw[okB,c1,c2];rfl)
  ·refine kw kO kc0 (kc2 h1 h2) ?_
   repeat' first|exact True.intro|refine Bn.mk ?_ ?_|intro hc
   all_goals
    refine Zai ?_;rw[okB,c1,c2,qV];simp
    try omega
end Go.Proofs.YtjjbhjnpeenbkaaGreatDoor.Gr
