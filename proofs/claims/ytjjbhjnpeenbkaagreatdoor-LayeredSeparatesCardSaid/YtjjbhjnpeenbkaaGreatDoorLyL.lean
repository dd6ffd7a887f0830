/- The boxes that Place answers. -/
import Derived.Test.YtjjbhjnpeenbkaaGreatDoorLyA
import Derived.Test.YtjjbhjnpeenbkaaGreatDoorAlA
import Derived.Test.YtjjbhjnpeenbkaaGreatDoorCyM
set_option linter.unusedSimpArgs false
set_option linter.unusedVariables false
set_option maxHeartbeats 16000000
namespace Go.Proofs.YtjjbhjnpeenbkaaGreatDoor.Gr
open Go Go.PS Go.Proofs Go.Proofs.YtjjbhjnpeenbkaaGreatDoor Go.Proofs.YtjjbhjnpeenbkaaGreatDoor.Al
set_option maxRecDepth 100000
attribute [local irreducible] Zad wpG Zaa Zag
abbrev Bx :=Int×Int×Int×Int
abbrev bxD (b:Bx):D:= .ag [.int b.1, .int b.2.1, .int b.2.2.1, .int b.2.2.2]
def inC (n:Int):Bool:=decide (-268435456<=n)&&decide (n<=268435456)
def plB (g:Gph)(y:List Int)(b:Int×Int)(v:Int):Bx:=match g.ns[v.toNat]? with
 |some n=>(at0 y v-n.w/2,b.1+(b.2-n.h)/2,at0 y v-n.w/2+n.w,b.1+(b.2-n.h)/2+n.h)
 |none=>(0,0,0,0)
theorem ZlV {g:Gph}{y:List Int}{b:Int×Int}{v:Nat}{n:Nd}(h:g.ns[v]? =some n):plB g y b v=(at0 y v-n.w/2,b.1+(b.2-n.h)/2,at0 y v-n.w/2+n.w,b.1+(b.2-n.h)/2+n.h):=by rw[plB,uM,h]
abbrev PS3 :=List Bx×Int×Bool
def plS (g:Gph)(y:List Int)(b:Int×Int)(σ:PS3)(v:Int):PS3:=if v<g.ns.length then(σ.1.set v.toNat (plB g y b v),if σ.2.2=false\/(plB g y b v).1<σ.2.1 then(plB g y b v).1 else σ.2.1,true)else σ
def plI (g:Gph)(y:List Int)(b:Int×Int)(r:List Int)(σ:PS3):Nat->PS3
 |0=>σ
 |j+1=>match r[j]? with
  |some v=>plS g y b (plI g y b r σ j) v
  |none=>plI g y b r σ j
theorem ZtB {g:Gph}{y:List Int}{b:Int×Int}{r:List Int}{σ:PS3}{j:Nat}{v:Int}(h:r[j]? =some v):plI g y b r σ (j+1)=plS g y b (plI g y b r σ j) v:=by rw[plI,h]
def plO (g:Gph)(y:List Int)(ls:List (List Int))(sep:Int):Nat->PS3
 |0=>(List.replicate g.ns.length (0,0,0,0),0,false)
 |k+1=>match ls[k]? with
  |some r=>plI g y (ZaX g ls sep k,hL g ls k) r (plO g y ls sep k) r.length
  |none=>plO g y ls sep k
theorem ZtC {g:Gph}{y:List Int}{ls:List (List Int)}{sep:Int}{k:Nat}{r:List Int}(h:ls[k]? =some r):plO g y ls sep (k+1)=plI g y (ZaX g ls sep k,hL g ls k) r (plO g y ls sep k) r.length:=by rw[plO,h]
theorem ZBI (g:Gph)(y:List Int)(b:Int×Int)(σ:PS3)(v:Int):(plS g y b σ v).1.length=σ.1.length:=by
 rw[plS];split
 ·exact yP
 ·rfl
theorem ZoE (g:Gph)(y:List Int)(b:Int×Int)(r:List Int)(σ:PS3):∀j,(plI g y b r σ j).1.length=σ.1.length:=by
 intro j
 induction j with
 |zero=>rfl
 |succ j ih=>
  rw[plI];split
  ·rw[ZBI,ih]
  ·exact ih
theorem ZlW (g:Gph)(y:List Int)(ls:List (List Int))(sep:Int):∀k,(plO g y ls sep k).1.length=g.ns.length:=by
 intro k
 induction k with
 |zero=>exact qW
 |succ k ih=>
  rw[plO];split
  ·rw[ZoE,ih]
  ·exact ih
def Mid (σ:PS3):Prop:=(∀b,b∈σ.1->(-68719476736<=b.1/\b.1<=68719476736)/\-68719476736<=b.2.2.1/\b.2.2.1<=68719476736)/\-68719476736<=σ.2.1/\σ.2.1<=68719476736
structure PlOk (g:Gph)(y:List Int)(ls:List (List Int)):Prop where
 nd:∀n,n∈g.ns->1<=n.w/\n.w<=1048576/\1<=n.h/\n.h<=1048576
 y0:∀v:Nat,0<=at0 y v/\at0 y v<=34359738368
 hl:ls.length<=256
 hv:∀r,r∈ls->r.length<=100000/\∀v,v∈r->0<=v/\v<y.length
theorem PlOk.low {g:Gph}{y:List Int}{ls:List (List Int)}(h:PlOk g y ls):Low g:=λ n hn=>by have:=h.nd n hn;omega
theorem ZBE {g:Gph}{y:List Int}{ls:List (List Int)}(h:PlOk g y ls)(b:Int×Int)(v:Nat):(-68719476736<=(plB g y b v).1/\(plB g y b v).1<=68719476736)/\-68719476736<=(plB g y b v).2.2.1/\(plB g y b v).2.2.1<=68719476736:=by
 rw[plB,uM];split
 ·rename_i n hn;have:=h.nd n (uA hn);have:=h.y0 v;dsimp only;omega
 ·dsimp only;omega
theorem ZBJ {g:Gph}{y:List Int}{ls:List (List Int)}(h:PlOk g y ls)(b:Int×Int){σ:PS3}(hm:Mid σ)(v:Int)(hv:0<=v):Mid (plS g y b σ v):=by
 obtain⟨v,rfl⟩:∃m:Nat,v=m:=⟨v.toNat,by omega⟩;have:=ZBE h b v;rw[plS];split
 ·refine⟨λ c hc=>?_,?_⟩
  ·rcases jQ hc with hc|rfl
   ·exact hm.1 c hc
   ·exact this
  ·dsimp only;split
   ·exact this.1
   ·exact hm.2
 ·exact hm
theorem ZtA {g:Gph}{y:List Int}{ls:List (List Int)}(h:PlOk g y ls)(b:Int×Int){r:List Int}(hr:∀v,v∈r->0<=v){σ:PS3}(hm:Mid σ):∀j,Mid (plI g y b r σ j):=by
 intro j
 induction j with
 |zero=>exact hm
 |succ j ih=>
  rw[plI];split
  ·rename_i v hv;exact ZBJ h b ih v (hr v (uA hv))
  ·exact ih
theorem ZBH {g:Gph}{y:List Int}{ls:List (List Int)}(h:PlOk g y ls)(sep:Int):∀k,Mid (plO g y ls sep k):=by
 intro k
 induction k with
 |zero=>
  refine⟨λ b hb=>?_,show(-68719476736:Int)<=0/\(0:Int)<=68719476736 by decide⟩;rw[plO]at hb;rw[(List.mem_replicate.1 hb).2];decide
 |succ k ih=>
  rw[plO];split
  ·rename_i r hr;exact ZtA h _ (λ v hv=>((h.hv r (uA hr)).2 v hv).1) ih _
  ·exact ih
def shB (m:Int)(b:Bx):Bx:=(b.1-m,b.2.1,b.2.2.1-m,b.2.2.2)
def okB (b:Bx):Bool:=(inC b.1&&inC b.2.1)&&((inC b.2.2.1&&inC b.2.2.2)&&(decide (b.1<=b.2.2.1)&&decide (b.2.1<=b.2.2.2)))
def shN (m:Int)(l:List Bx):Nat->List Bx
 |0=>l
 |k+1=>match l[k]? with
  |some b=>(shN m l k).set k (shB m b)
  |none=>shN m l k
theorem ZuC (m:Int)(l:List Bx):∀k,(shN m l k).length=l.length:=by
 intro k
 induction k with
 |zero=>rfl
 |succ k ih=>
  rw[shN];split
  ·rw[yP,ih]
  ·exact ih
theorem ZuB (m:Int)(l:List Bx):∀k j,(shN m l k)[j]? =if j<k then l[j]?.map (shB m)else l[j]? :=by
 intro k
 induction k with
 |zero=>intro j;rfl
 |succ k ih=>
  intro j;rw[shN];split
  ·rename_i b hb;by_cases c:j=k
   ·subst c;rw[gQ (by rw[ZuC];exact(uB.1 hb).1),if_pos (by omega),hb];rfl
   ·rw[jJ (by omega),ih];by_cases d:j<k
    ·rw[if_pos d,if_pos (by omega)]
    ·rw[if_neg d,if_neg (by omega)]
  ·rename_i hb;rw[ih];by_cases c:j=k
   ·subst c;rw[if_neg (by omega),if_pos (by omega),hb];rfl
   ·by_cases d:j<k
    ·rw[if_pos d,if_pos (by omega)]
    ·rw[if_neg d,if_neg (by omega)]
theorem ZDK (m:Int)(l:List Bx):shN m l l.length=l.map (shB m):=by
 refine qA λ j=>?_
 rw[ZuB,uI];split
 ·rfl
 ·rw[uN (by omega)];rfl
theorem ZtR (x y:Int):Zaa Tryz.prog 120 [.ag [.int x, .int y]] (.bool (inC x&&inC y)):=by
 refine kE Tryz.func120 ?_;intro hat B X w0;refine kw kO kc0 kc0 ?_
 repeat' first|exact True.intro|refine Bn.mk ?_ ?_|intro hc
 all_goals
  refine Zah ?_;rw[qV];simp[inC]
  try omega
theorem Zm8 (b:Bx):Zaa Tryz.prog 68 [bxD b] (.bool (okB b)):=by
 have h1:=ZtR b.1 b.2.1;have h2:=ZtR b.2.2.1 b.2.2.2;refine kE Tryz.func68 ?_;intro hat B X w0;rcases c1:(inC b.1&&inC b.2.1)with _|_<;>rw[c1]at h1
 ·refine kw1 kO kc0 (kc2 h1 h2) ?_;exact Zah (by rw[okB,c1];rfl)
 ·rcases c2:(inC b.2.2.1&&inC b.2.2.2)with _|_<;>rw[c2]at h2
  ·refine kw1 kO kc0 (kc2 h1 h2) ?_;exact Zah (by rw[okB,c1,c2];rfl)
  ·refine kw kO kc0 (kc2 h1 h2) ?_
   repeat' first|exact True.intro|refine Bn.mk ?_ ?_|intro hc
   all_goals
    refine Zah ?_;rw[okB,c1,c2,qV];simp
    try omega
theorem ZpK {g:Gph}{o:Opt}{lv:Lv}{n e:Int}(h1:Zaa Tryz.prog 13 [ZaN g,ZbI o] (.tup [lvD lv, .int n, .int e]))(he:e≠0):
  Zaa Tryz.prog 21 [ZaN g,ZbI o] (.tup [.sl [],lvD lv0, .int e]):=by
 obtain⟨lm,ls,ar,cs⟩:=lv;refine kE Tryz.func21 ?_;intro hat B X w0;refine kw1 kO (kc1 he) (kc1 h1) ?_;refine⟨_,rfl,rfl,⟨_,_,_,_,rfl,?_⟩,Zai rfl,trivial⟩;simp(disch:=omega) only[go_sem,simprocAttr];rfl
theorem Zy1 (g:Gph){r:List Int}{j:Nat}{v:Int}(h:r[j]? =some v)(hv:v<g.ns.length):∀k,j<k->Zez g v<=hN g r k:=by
 intro k
 induction k with
 |zero=>intro h;omega
 |succ k ih=>
  intro hjk;rw[hN];rcases uE j k with h1|h1
  ·have:=ih h1;split
   ·split
    ·split<;>omega
    ·exact this
   ·exact this
  ·obtain rfl:j=k:=by omega
   rw[h];dsimp only;rw[if_pos hv];split<;>omega
theorem ZnJ {g:Gph}{ls:List (List Int)}{k:Nat}{r:List Int}(hr:ls[k]? =some r){j:Nat}{v:Int}(h:r[j]? =some v)(hv:v<g.ns.length):Zez g v<=hL g ls k:=by
 rw[hL,hr];exact Zy1 g h hv _ (uB.1 h).1
theorem ZFG (g:Gph):∀k,k<=g.ns.length->((Zbf g).take k).length=k:=λ k hk=>by rw[yJ,Zbf,uC];omega
theorem Zmw {g:Gph}{o:Opt}{ls:List (List Int)}{ar:List Arc}{cs:List (List Int)}{y:List Int}{c:Int}(hp:PlOk g y ls)(hs:0<=o.rsep/\o.rsep<=1048576)(hn:g.ns.length<=1000)(hyl:g.ns.length<=y.length)
  (h1:Zaa Tryz.prog 13 [ZaN g,ZbI o] (.tup [lvD (g.ns.length,ls,ar,cs), .int c, .int 0]))
  (h2:Zaa Tryz.prog 17 [lvD (g.ns.length,ls,ar,cs),Zab (Zbf g), .int o.nsep] (.tup [Zab y, .int 0])):
  Zaa Tryz.prog 21 [ZaN g,ZbI o] (if(((plO g y ls o.rsep ls.length).1.map (shB (plO g y ls o.rsep ls.length).2.1)).all okB)=true then(.tup [.sl (((plO g y ls o.rsep ls.length).1.map (shB (plO g y ls o.rsep ls.length).2.1)).map bxD),lvD (g.ns.length,ls,ar,cs), .int 0])else(.tup [.sl [],lvD lv0, .int 2])):=by
 have h3:=ZwN g ls ar cs o.rsep hp.low hs hp.hl (λ r hr=>⟨(hp.hv r hr).1,λ v hv=>((hp.hv r hr).2 v hv).1⟩);refine kE Tryz.func21 ?_;intro hat B X w0;refine kw1 kO kc0 (kc1 h1) ?_;refine Zao _ (Zcy 10 901 1 rfl rfl) ?_;refine Zaf (λ(k:Nat)=>k<=g.ns.length) (λ k=>[(2, .ptr 2 0 0 0),(3, .ptr 3 0 0 0),(5, .ptr 5 0 0 0),(7, .ptr 7 0 0 0),(10, .ref 901 1 0 ((Zbf g).take k).length ((Zbf g).take k).length),(37, .d (.sl (g.ns.map ndD))),(38, .int g.ns.length),(39, .int k)]) (λ k=>[(2, .cells [.d (Za1 g.nm), .d (.bool g.dir), .d (.sl (g.ns.map ndD)), .d (.sl (g.es.map edD)), .d (.sl (g.cs.map clD))]),(3, .cells [.int o.md, .int o.nsep, .int o.rsep, .int o.mg, .int o.rd]),(5, .cells [.int 0, .nilS, .nilS, .nilS]),(7, .cells [.int g.ns.length, .d (Zae ls), .d (Zaj ar), .d (Zae cs)]),(901, .row 1 (((Zbf g).take k).map D.int))]) (λ k=>g.ns.length-k) 0 ?_ ?_ ?_
 ·exact uH _
 ·exact kN (kc3 @yX.{0} @yH.{0,0} @uY.{0}) []
 ·intro k hk;have hwl:=ZFG g k hk;rcases uE k g.ns.length with hlt|hge
  ·obtain⟨n,hn⟩:=Zac hlt;have e1:(Zbf g).take (k+1)=(Zbf g).take k++[n.w]:=ZaA (by rw[Zbf,uI,hn];rfl);have htk:(((Zbf g).take k).map D.int).take k=((Zbf g).take k).map D.int:=uD (by rw[uC,hwl];exact uJ _);refine kw1 kO (kc3 hn hwl htk) kc0 ?_;refine⟨k+1,?_,kN (kc7 e1 @uG.{0} @yL.{0} @uQ.{0,0} @uT.{0,0} @yH.{0,0} hwl) [(901,47)],?_⟩
   ·exact hlt
   ·omega
  ·obtain rfl:k=g.ns.length:=by omega
   have e2:(Zbf g).take g.ns.length=Zbf g:=uD (by rw[Zbf,uC];exact uJ _);have ewl:(Zbf g).length=g.ns.length:=by rw[Zbf,uC]
   rw[e2];refine Zao _ (Zc5 901 1 ((Zbf g).map D.int) rfl (ZcW _ rfl) (by decide)) ?_;have htw:((Zbf g).map D.int).take g.ns.length=(Zbf g).map D.int:=uD (by rw[uC,ewl];exact uJ _);have hbl:=Zqh g ls o.rsep ls.length;have hbD:((Zcv g ls o.rsep ls.length).map ZgV).length=ls.length:=by rw[uC,hbl]
   refine kw1 kO (kc5 ewl htw hbl hbD @qR.{0}) (kc2 h2 h3) ?_;refine Zaf (λ(k:Nat)=>k<=ls.length) (λ k=>[(2, .ptr 2 0 0 0),(3, .ptr 3 0 0 0),(5, .ptr 5 0 0 0),(7, .ptr 7 0 0 0),(13, .d (Zab y)),(14, .ref 63 4 0 g.ns.length g.ns.length),(15, .int (plO g y ls o.rsep k).2.1),(16, .bool (plO g y ls o.rsep k).2.2),(68, .d (.sl ((Zcv g ls o.rsep ls.length).map ZgV))),(69, .int ls.length),(70, .int k)]) (λ k=>[(2, .cells [.d (Za1 g.nm), .d (.bool g.dir), .d (.sl (g.ns.map ndD)), .d (.sl (g.es.map edD)), .d (.sl (g.cs.map clD))]),(3, .cells [.int o.md, .int o.nsep, .int o.rsep, .int o.mg, .int o.rd]),(5, .cells [.int 0, .nilS, .nilS, .nilS]),(7, .cells [.int g.ns.length, .d (Zae ls), .d (Zaj ar), .d (Zae cs)]),(63, .row 4 ((plO g y ls o.rsep k).1.map bxD))]) (λ k=>ls.length-k) 0 ?_ ?_ ?_
   ·exact uH _
   ·exact kN (kc2 @plO.eq_1 @kW.{0,0}) []
   ·intro k hk;have hol:=ZlW g y ls o.rsep k;have hom:=ZBH hp o.rsep k;rcases uE k ls.length with hlt|hge
    ·obtain⟨r,hr⟩:=Zac hlt;have eO:=ZtC (g:=g) (y:=y) (sep:=o.rsep) hr;obtain⟨hr1,hr2⟩:=hp.hv r (uA hr);have hbk:(Zcv g ls o.rsep ls.length)[k]? =some (ZaX g ls o.rsep k,hL g ls k):=by rw[Zcv,uI,yR hlt];rfl
     have ht:=Zmo hp.low ls hs k;have hh:=ZfX hp.low ls k;have hge:=λ j v h1 h2=>ZnJ (g:=g) (ls:=ls) hr (j:=j) (v:=v) h1 h2
     generalize ZaX g ls o.rsep k=T at*;generalize hL g ls k=H at*;refine kw1 kO (kc2 hbk hr) kc0 ?_;refine Zaf (λ(j:Nat)=>j<=r.length) (λ j=>[(2, .ptr 2 0 0 0),(3, .ptr 3 0 0 0),(5, .ptr 5 0 0 0),(7, .ptr 7 0 0 0),(13, .d (Zab y)),(14, .ref 63 4 0 g.ns.length g.ns.length),(15, .int (plI g y (T,H) r (plO g y ls o.rsep k) j).2.1),(16, .bool (plI g y (T,H) r (plO g y ls o.rsep k) j).2.2),(18, .ptr 18 0 0 0),(68, .d (.sl ((Zcv g ls o.rsep ls.length).map ZgV))),(69, .int ls.length),(70, .int k),(79, .d (Zab r)),(80, .int r.length),(81, .int j)]) (λ j=>[(2, .cells [.d (Za1 g.nm), .d (.bool g.dir), .d (.sl (g.ns.map ndD)), .d (.sl (g.es.map edD)), .d (.sl (g.cs.map clD))]),(3, .cells [.int o.md, .int o.nsep, .int o.rsep, .int o.mg, .int o.rd]),(5, .cells [.int 0, .nilS, .nilS, .nilS]),(7, .cells [.int g.ns.length, .d (Zae ls), .d (Zaj ar), .d (Zae cs)]),(18, .cells [.int T, .int H]),(63, .row 4 ((plI g y (T,H) r (plO g y ls o.rsep k) j).1.map bxD))]) (λ j=>r.length-j) 0 ?_ ?_ ?_
     ·exact uH _
     ·exact kN (kc1 @plI.eq_1) []
     ·intro j hj;have hil:=(ZoE g y (T,H) r (plO g y ls o.rsep k) j).trans hol;have him:=ZtA hp (T,H) (λ v hv=>(hr2 v hv).1) hom j;rcases uE j r.length with hjl|hjg
      ·obtain⟨v,hvj⟩:=Zac hjl;obtain⟨hv0,hv1⟩:=hr2 v (uA hvj);have e1:=ZtB (g:=g) (y:=y) (b:=(T,H)) (σ:=plO g y ls o.rsep k) hvj;have hge:=hge j v hvj;generalize plI g y (T,H) r (plO g y ls o.rsep k) j=σ at*;obtain⟨v,rfl⟩:∃m:Nat,v=m:=⟨v.toNat,by omega⟩;by_cases c:(v:Int)<g.ns.length
       ·obtain⟨n,hn⟩:=Zac (l:=g.ns) (k:=v) (by omega);obtain⟨n1,n2,n3,n4⟩:=hp.nd n (uA hn);have hgn:=hge c;rw[ZjW hn]at hgn;have hy:y[v]? =some (at0 y v):=ZaG (by omega);obtain⟨y1,y2⟩:=hp.y0 v;have q1:n.w.tdiv 2=n.w/2:=zO (by omega);have q2:(H-n.h).tdiv 2=(H-n.h)/2:=zO (by omega);have eB:=ZlV (g:=g) (y:=y) (b:=(T,H)) hn;have e2:plS g y (T,H) σ v=(σ.1.set v (plB g y (T,H) v),if σ.2.2=false\/(plB g y (T,H) v).1<σ.2.1 then(plB g y (T,H) v).1 else σ.2.1,true):=by rw[plS,if_pos c,uM]
        rw[e2,eB]at e1;dsimp only at e1;obtain⟨S1,S2,S3⟩:=σ;dsimp only at e1 hil him|-;obtain⟨_,m1,m2⟩:=him;dsimp only at m1 m2;obtain⟨b0,hb0⟩:=Zac (l:=S1) (k:=v) (by omega);have hlb:=hp.hl;generalize hx0:at0 y v-n.w/2=x0 at*;have hx1:-1048576<=x0/\x0<=34359738368:=by omega
        rcases S3 with _|_
        ·rw[if_pos (.inl rfl)]at e1;refine kw kO (kc8 hvj c hn hy q1 q2 hx0 (kc2 hil hb0)) kc0 ?_
         repeat' first|exact True.intro|refine Bn.mk ?_ ?_|intro hc
         refine⟨j+1,?_,eL [] _ _ (by refine⟨?_,?_⟩<;>(repeat' first|exact fmn|refine fmc ⟨(by first|rfl|(simp(disch:=omega) only[go_sem,simprocAttr,inL,e1,yZ];first|done|omega|(congr 1;done))),?_⟩);done),?_⟩
         ·exact hjl
         ·omega
        ·by_cases d:x0<S2
         ·rw[if_pos (.inr d)]at e1;refine kw kO (kc8 hvj c hn hy q1 q2 hx0 (kc3 hil d hb0)) kc0 ?_
          repeat' first|exact True.intro|refine Bn.mk ?_ ?_|intro hc
          refine⟨j+1,?_,eL [] _ _ (by refine⟨?_,?_⟩<;>(repeat' first|exact fmn|refine fmc ⟨(by first|rfl|(simp(disch:=omega) only[go_sem,simprocAttr,inL,e1,yZ];first|done|omega|(congr 1;done))),?_⟩);done),?_⟩
          ·exact hjl
          ·omega
         ·rw[if_neg (by simp;omega)]at e1;refine kw kO (kc8 hvj c hn hy q1 q2 hx0 (kc3 hil d hb0)) kc0 ?_
          repeat' first|exact True.intro|refine Bn.mk ?_ ?_|intro hc
          refine⟨j+1,?_,eL [] _ _ (by refine⟨?_,?_⟩<;>(repeat' first|exact fmn|refine fmc ⟨(by first|rfl|(simp(disch:=omega) only[go_sem,simprocAttr,inL,e1,yZ];first|done|omega|(congr 1;done))),?_⟩);done),?_⟩
          ·exact hjl
          ·omega
       ·rw[plS,if_neg c]at e1;refine kw1 kO (kc2 hvj c) kc0 ?_;refine⟨j+1,?_,kN (kc1 e1) [],?_⟩
        ·exact hjl
        ·omega
      ·obtain rfl:j=r.length:=by omega
       rw[<-eO];have hlb:=hp.hl;refine kw1 kO kc0 kc0 ?_;refine⟨k+1,?_,eL [] _ _ (by refine⟨?_,?_⟩<;>(repeat' first|exact fmn|refine fmc ⟨(by first|rfl|(simp(disch:=omega) only[go_sem,simprocAttr,inL];first|done|omega|(congr 1;done))),?_⟩);done),?_⟩
       ·exact hlt
       ·omega
    ·obtain rfl:k=ls.length:=by omega
     generalize plO g y ls o.rsep ls.length=σ at*;obtain⟨S1,S2,S3⟩:=σ;obtain⟨hm0,hm1,hm2⟩:=hom;dsimp only at hm0 hm1 hm2 hol|-;refine kw1 kO (kc1 hol) kc0 ?_;refine Zaf (λ(v:Nat)=>v<=g.ns.length/\(∀(j:Nat) b,j<v->S1[j]? =some b->okB (shB S2 b)=true)) (λ v=>[(5, .ptr 5 0 0 0),(7, .ptr 7 0 0 0),(14, .ref 63 4 0 g.ns.length g.ns.length),(15, .int S2),(136, .int g.ns.length),(137, .int v)]) (λ v=>[(5, .cells [.int 0, .nilS, .nilS, .nilS]),(7, .cells [.int g.ns.length, .d (Zae ls), .d (Zaj ar), .d (Zae cs)]),(63, .row 4 ((shN S2 S1 v).map bxD))]) (λ v=>g.ns.length-v) 0 ?_ ?_ ?_
     ·exact⟨uH _,λ j b h=>by omega⟩
     ·exact kN (kc1 @shN.eq_1) []
     ·rintro v ⟨hv,hinv⟩;have hsl:=(ZuC S2 S1 v).trans hol;rcases uE v g.ns.length with hvl|hvg
      ·obtain⟨b,hb⟩:=Zac (l:=S1) (k:=v) (by omega);have hg:=ZuB S2 S1 v v;rw[if_neg (by omega),hb]at hg;obtain⟨⟨b1,b2⟩,b3,b4⟩:=hm0 b (uA hb);have e1:shN S2 S1 (v+1)=(shN S2 S1 v).set v (shB S2 b):=by rw[shN,hb]
       have h4:=Zm8 (shB S2 b);generalize shN S2 S1 v=R at*;have hs1:∀X:D,v<((R.map bxD).set v X).length:=λ X=>by rw[yP,uC];omega
       have hs2:∀X:D,((R.map bxD).set v X)[v]? =some X:=λ X=>by rw[gQ (by rw[uC];omega)]
       have hs3:∀X Y:D,v<(((R.map bxD).set v X).set v Y).length:=λ X Y=>by rw[List.set_set];exact hs1 Y
       have hs4:∀X Y:D,(((R.map bxD).set v X).set v Y)[v]? =some Y:=λ X Y=>by rw[List.set_set];exact hs2 Y
       have hs5:∀X Y:D,((R.map bxD).set v X).set v Y=(R.map bxD).set v Y:=λ X Y=>by rw[List.set_set]
       obtain⟨x0,y0,x1,y1⟩:=b;dsimp only[shB]at*;rcases ho:okB (x0-S2,y0,x1-S2,y1)with _|_<;>rw[ho]at h4
       ·refine kw kO (kc7 hg hsl hs1 hs2 hs3 hs4 hs5) (kc1 h4) ?_
        repeat' first|exact True.intro|refine Bn.mk ?_ ?_|intro hc
        rw[if_neg (by rw[List.all_map,Cd,List.all_eq_false];exact⟨_,uA hb,by simp[shB,ho]⟩)];refine⟨_,rfl,rfl,⟨_,_,_,_,rfl,?_⟩,Zai rfl,trivial⟩;simp(disch:=omega) only[go_sem,simprocAttr]
        all_goals rfl
       ·repeat' first|refine ZbQ rfl ?_|refine Za7 ?_|refine wR ?_|(refine rc (h4) rfl ?_ ?_;(· first|rfl|simp(disch:=omega) only[go_sem,simprocAttr,hg,hsl,hs1,hs2,hs3,hs4,hs5]))|(refine ZbY rfl rfl (λ hc=>?_) (λ hc=>?_)<;>try simp only[hcL]at hc)|(refine ZbW _ rfl rfl (λ hc=>?_) (λ hc=>?_)<;>(try simp only[hcL]at hc)<;>try omega)|simp(disch:=omega) only[go_sem,simprocAttr,hg,hsl,hs1,hs2,hs3,hs4,hs5]|apply And.intro|omega|decide+kernel
        refine⟨v+1,?_,eL [] _ _ (by refine⟨?_,?_⟩<;>(repeat' first|exact fmn|refine fmc ⟨(by first|rfl|(simp(disch:=omega) only[go_sem,simprocAttr,inL,e1,yZ];first|done|omega|(congr 1;done))),?_⟩);done),?_⟩
        ·exact⟨hvl,Zbr hinv hb ho⟩
        ·omega
      ·obtain rfl:v=g.ns.length:=by omega
       have hall:(S1.map (shB S2)).all okB=true:=by
        rw[List.all_map,uX];intro b hb;obtain⟨j,hj⟩:=yV.1 hb;exact hinv j b (by have:=(uB.1 hj).1;omega) hj
       rw[if_pos hall,<-ZDK,hol];refine kw1 kO kc0 kc0 ?_;refine⟨_,rfl,ZbF (o:=63) rfl rfl (by simp[hsl]) (by rw[uD (by simp[hsl])]),⟨_,_,_,_,rfl,?_⟩,Zai rfl,trivial⟩;simp(disch:=omega) only[go_sem,simprocAttr]
       all_goals rfl
theorem Zss :Zhc lvA [20000,20000,20000] 10000=(5,[(3,0,0,1),(3,1,0,1),(4,0,0,1),(4,2,0,1),(1,2,30000,0)]):=by decide+kernel
theorem ZAd :Sx.SolveOk (Zhc lvA [20000,20000,20000] 10000) [0,0,30000,0,0] [0,2,2,0,1]:=by
 rw[Zss];exact Sx.solve_of 5 _ 10 _ _ (by decide+kernel) (by decide+kernel) (by decide+kernel) (by decide+kernel) (by decide+kernel) (by decide+kernel)
theorem ZAc :Sx.SolveOk (Sx.mirF (Zhc lvA [20000,20000,20000] 10000)) [0,30000,0,30000,0] [0,2,2,0,1]:=by
 rw[Zss];exact Sx.solve_of 5 _ 10 _ _ (by decide+kernel) (by decide+kernel) (by decide+kernel) (by decide+kernel) (by decide+kernel) (by decide+kernel)
theorem Zz7 :ZeS lvA [20000,20000,20000] 10000=true:=by
 rw[ZeS,vA];decide+kernel
theorem Zz5 :Zaa Tryz.prog 17 [lvD lvA,Zab [20000,20000,20000], .int 10000] (.tup [Zab [15000,0,30000], .int 0]):=by
 have h:=VA.of Zz7;have hB:=Sx.Balanced_ok _ _ _ _ _ ZAd ZAc (by decide+kernel) (by decide+kernel) (Sx.fromTo_of (by decide+kernel)) (Sx.fromTo_of (by decide+kernel));rw[show Sx.midF [0,0,30000,0,0] [0,30000,0,30000,0]=[15000,0,30000,0,15000] by decide+kernel]at hB;have s2:=ZjA lvA [20000,20000,20000] 10000 [15000,0,30000,0,15000] ZFH h (by decide) hB (by decide+kernel) (λ v hv=>by
  have:∀v:Nat,v<5->0<=at0 [15000,0,30000,0,15000] v/\at0 [15000,0,30000,0,15000] v<=34359738368:=by decide+kernel
  exact this v hv)
 rw[show Zey [15000,0,30000,0,15000] (tot lvA.2.1)=[15000,0,30000] by decide+kernel]at s2;exact s2
theorem Zz6 :Zay (pGr ZdA) [0,1,1]=(lvA,0):=by rw[pGr,Znw];decide+kernel
theorem ZAe :swB lvA=lvA:=by decide+kernel
theorem Zst :∀k,Zc9 lvA k=lvA
 |0=>rfl
 |k+1=>by rw[Zc9,Zst k,ZAe]
theorem Zsr :∀k,Zbx lvA k=lvA
 |0=>rfl
 |k+1=>by rw[Zbx,Zst,Zsr k,if_neg (by omega)]
theorem Zsu :Zbc lvA=0:=by
 simp only[Zbc,Zb4,Zkg,ZaU,Zec,vA]
 decide+kernel
theorem Zsq :∀i,i<2->(ZcG lvA i).2=false:=by
 simp only[ZcG,ZhS,orM,stM,ZdI,ZaU,Zec,vA]
 decide+kernel
theorem ZAb :Zcl lvA=lvA:=by
 have h0:=Zsq 0 (by decide);have h1:=Zsq 1 (by decide);rw[Zcl,Zek,Zsu];show ZbL 2 lvA 0=lvA;rw[ZbL,if_pos (by decide),h0,if_neg (by decide),ZbL,if_pos (by decide),h1,if_neg (by decide),ZbL]
abbrev ZlF :Opt:=⟨0,10000,20000,5000,8⟩
theorem Zz8 :Zaa Tryz.prog 13 [ZaN ZdA,ZbI ZlF] (.tup [lvD lvA, .int 0, .int 0]):=by
 have h:=ZpJ (o:=ZlF) Zrh (by decide) (by decide+kernel) Zri;rw[Zjb,Zz6,if_pos rfl,Zhh,if_pos ⟨vA,by decide,by decide⟩]at h;dsimp only at h;rw[Zsr,ZAb,Zsu]at h;exact h
theorem Zz9 :PlOk ZdA [15000,0,30000] lvA.2.1:=by
 refine⟨λ n hn=>?_,λ v=>?_,by decide,λ r hr=>?_⟩
 ·simp only[yF,gL,Cf]at hn;rcases hn with rfl|rfl|rfl<;>decide
 ·rcases v with _|_|_|v
  ·decide
  ·decide
  ·decide
  ·rw[at0,uM,uN (by simp)];decide
 ·simp only[yF,gL,Cf]at hr;rcases hr with rfl|rfl
  ·decide
  ·decide
theorem ZAa :Zaa Tryz.prog 21 [ZaN ZdA,ZbI ZlF] (.tup [.sl (([(15000,0,35000,10000),(0,30000,20000,40000),(30000,30000,50000,40000)]:List Bx).map bxD),lvD lvA, .int 0]):=by
 have h:=Zmw (y:=[15000,0,30000]) (c:=0) Zz9 (by decide) (by decide) (by decide) Zz8 Zz5;have e:(plO ZdA [15000,0,30000] lvA.2.1 20000 2).1.map (shB (plO ZdA [15000,0,30000] lvA.2.1 20000 2).2.1)=[(15000,0,35000,10000),(0,30000,20000,40000),(30000,30000,50000,40000)]:=by decide+kernel
 rw[show(lvA.2.1).length=2 from rfl,show ZlF.rsep=20000 from rfl,e,if_pos (by decide+kernel)]at h;exact h
theorem Zyp :Zaa Tryz.prog 78 [] (ZaN ZdA):=by
 refine kE Tryz.func78 ?_;intro hat B X w0;refine kw1 (kow (Nat.beq 7) (b:=true)) kc0 kc0 ?_;refine⟨_,_,_,_,rfl,?_⟩;simp(disch:=omega) only[go_sem,simprocAttr];rfl
theorem ZDm (a b:List Bx):Zaa Tryz.prog 37 [.sl (a.map bxD), .sl (b.map bxD)] (.bool (decide (a=b))):=by
 refine kE Tryz.func37 ?_;intro hat B X w0;have hl:=ZaJ 0 hat rfl;rw[uC]at hl;by_cases hab:a.length=b.length
 ·have hab':(a.length:Int)=b.length:=by omega
  refine kw1 kO (kc1 @hab') kc0 ?_;refine Zaf (λ(k:Nat)=>k<=a.length/\a.take k=b.take k) (λ k=>[(0, .d (.sl (a.map bxD))),(1, .d (.sl (b.map bxD))),(5, .int k)]) (λ k=>[]) (λ k=>a.length-k) 0 ?_ ?_ ?_
  ·exact⟨uH _,rfl⟩
  ·exact kN kc0 []
  ·rintro k ⟨hk,hinv⟩;rcases uE k a.length with hlt|hge
   ·obtain⟨x,hx⟩:=Zac hlt;obtain⟨z,hz⟩:=Zac (l:=b) (k:=k) (by omega);by_cases c:x=z
    ·subst c;refine kw1 kO (kc2 hx hz) kc0 ?_;refine⟨k+1,?_,kN kc0 [],?_⟩
     ·exact⟨hlt,by rw[ZaA hx,ZaA hz,hinv]⟩
     ·omega
    ·repeat' first|refine ZbQ rfl ?_|refine Za7 ?_|refine wR ?_|(refine ZbY rfl rfl (λ hc=>?_) (λ hc=>?_)<;>try simp only[hcL]at hc)|(refine ZbW _ rfl rfl (λ hc=>?_) (λ hc=>?_)<;>(try simp only[hcL]at hc)<;>try omega)|simp(disch:=omega) only[go_sem,simprocAttr,hx,hz]|apply And.intro|omega|decide+kernel
     all_goals first|exact Zah (by rw[uV (ZgO hx hz c)])|exact absurd (Prod.ext hc.1 (Prod.ext hc.2.1 (Prod.ext hc.2.2.1 hc.2.2.2))) c
   ·refine kw1 kO kc0 kc0 ?_;refine Zah ?_;rw[uD hge,uD (by omega)]at hinv;rw[yD hinv]
 ·have hab':¬(a.length:Int)=b.length:=by omega
  refine kw1 kO (kc1 @hab') kc0 ?_;exact Zah (by rw[uV (λ h=>hab (by rw[h]))])
theorem Zn3 :Zaa Tryz.prog 28 [] (.bool true):=by
 have h1:=Zyp;have h2:=Zrg;have h3:=ZAa;have h4:=ZoW [0,1,1] [0,1,1];rw[yD rfl]at h4;have h5:=ZDm [(15000,0,35000,10000),(0,30000,20000,40000),(30000,30000,50000,40000)] [(15000,0,35000,10000),(0,30000,20000,40000),(30000,30000,50000,40000)];rw[yD rfl]at h5;refine kE Tryz.func28 ?_;intro hat B X w0;refine kw1 kO kc0 (kc5 h1 h2 h3 h4 h5) ?_;exact Zah rfl
end Go.Proofs.YtjjbhjnpeenbkaaGreatDoor.Gr
namespace Go.Proofs.YtjjbhjnpeenbkaaGreatDoor.Gr
open Go Go.PS Go.Proofs Go.Proofs.YtjjbhjnpeenbkaaGreatDoor
open Go.Cy (NA InN Zbk Za5)
set_option maxRecDepth 100000
attribute [local irreducible] Zad wpG Zaa Zag
theorem ZtX (g:Gph)(hl:g.es.length<=1000000):Zaa Tryz.prog 43 [ZaN g] (gD (ZhB g)):=by
 refine kE Tryz.func43 ?_;intro hat B X w0;refine kw1 kO kc0 kc0 ?_;refine Zao _ (Zch 3 1 901 2 rfl rfl rfl) ?_;refine Zaf (λ(k:Nat)=>k<=g.es.length) (λ k=>[(1, .ptr 1 0 0 0),(2, .ptr 2 0 0 0),(3, .ptr 3 0 0 0),(4, .int k)]) (λ k=>[(1, .cells [.d (Za1 g.nm), .d (.bool g.dir), .d (.sl (g.ns.map ndD)), .d (.sl (g.es.map edD)), .d (.sl (g.cs.map clD))]),(2, .cells [.int 0, .nilS]),(3, .cells [.int g.ns.length, .ref 901 2 0 (Zde g k).length (Zde g k).length]),(901, .row 2 ((Zde g k).map Za0))]) (λ k=>g.es.length-k) 0 ?_ ?_ ?_
 ·exact uH _
 ·exact kN kc0 []
 ·intro k hk;have hln:=Zvf g hk;rcases uE k g.es.length with hlt|hge
  ·obtain⟨e,he⟩:=Zac hlt;have hs:=Zvg he;have htk:((Zde g k).map Za0).take k=(Zde g k).map Za0:=uD (by simp[hln]);refine kw1 kO (kc3 he htk hln) kc0 ?_;refine⟨k+1,?_,kN (kc7 hs @uG.{0} @yL.{0} @uQ.{0,0} @uT.{0,0} @yH.{0,0} hln) [(901,32)],?_⟩
   ·exact hlt
   ·omega
  ·obtain rfl:k=g.es.length:=by omega
   refine kw1 kO kc0 kc0 ?_;refine⟨_,_,_,_,rfl,?_⟩;simp(disch:=omega) only[go_sem,simprocAttr];rw[Zve,Zal];rfl
theorem Zt2 {g:Gph}(hs:Zbs g):∃s:D,Zaa Tryz.prog 42 [gD (ZhB g)] (.tup [s,gD ((g.ns.length:Int),Cyc.castA (Za3 g))]):=by
 have h:=Cyc.rBreak8 g.ns.length (naF g) (ZuJ hs) (ZlO hs.ok) (by rw[naF,uC];exact(ZeT hs.ok).1) hs.n8;rw[ZuI hs.ok];exact⟨_,h⟩
theorem ZCb {g:Gph}(hs:Zbs g):Zaa Tryz.prog 23 [ZaN g] (.tup [gD ((g.ns.length:Int),ZaZ (Za3 g) (Za3 g).length),Zab (ZaR (Za3 g) (Za3 g).length)]):=by
 obtain⟨h256,_,_⟩:=ZeT hs.ok;have h1:=ZtX g (by omega);obtain⟨s,h2⟩:=Zt2 hs;have hbl:=ZfP g;generalize Za3 g=l at*;have hcl:(Cyc.castA l).length=l.length:=Cyc.castA_len l;refine kE Tryz.func23 ?_;intro hat B X w0;refine kw1 kO (kc1 hcl) (kc2 h1 h2) ?_;refine Zao _ (Zch 6 1 901 2 rfl rfl rfl) ?_;refine Zao _ (Zcy 7 902 1 rfl rfl) ?_;refine Zaf (λ(k:Nat)=>k<=l.length) (λ k=>[(2, .ptr 2 0 0 0),(5, .ptr 5 0 0 0),(6, .ptr 6 0 0 0),(7, .ref 902 1 0 (ZaR l k).length (ZaR l k).length),(8, .int k)]) (λ k=>[(2, .cells [.int 0, .nilS]),(5, .cells [.int g.ns.length, .d (Zaj (Cyc.castA l))]),(6, .cells [.int g.ns.length, .ref 901 2 0 (ZaZ l k).length (ZaZ l k).length]),(901, .row 2 ((ZaZ l k).map Za0)),(902, .row 1 ((ZaR l k).map D.int))]) (λ k=>l.length-k) 0 ?_ ?_ ?_
 ·exact uH _
 ·exact kN (kc7 @ZaZ.eq_1 @ZaR.eq_1 @ksF.eq_1 @jG @jX.{0} @yH.{0,0} @uY.{0}) []
 ·intro k hk;have hlk:=Zg4 l k;have hl1:(ZaZ l k).length<=256:=by rw[ZaZ,uC];omega
  have hl2:(ZaR l k).length<=256:=by rw[ZaR,uC];omega
  rcases uE k l.length with hlt|hge
  ·obtain⟨a,ha⟩:=Zac hlt;have hp:(Cyc.castA l)[k]? =some ((a.1:Int),(a.2:Int)):=Cyc.castA_get ha;by_cases c:a.1=a.2
   ·have c':(a.1:Int)=a.2:=by omega
    have hn:ZdW l k=false:=by rw[ZdW,ha];simp[c]
    have e1:ZaZ l (k+1)=ZaZ l k:=by rw[ZaZ,ZaZ,Zg5,hn];simp
    have e2:ZaR l (k+1)=ZaR l k:=by rw[ZaR,ZaR,Zg5,hn];simp
    refine kw1 kO (kc3 hp hcl @c') kc0 ?_;refine⟨k+1,?_,kN (kc2 e1 e2) [],?_⟩
    ·exact hlt
    ·omega
   ·have c':¬(a.1:Int)=a.2:=by omega
    have hn:ZdW l k=true:=by rw[ZdW,ha];simp[c]
    have e1:ZaZ l (k+1)=ZaZ l k++[((a.1:Int),(a.2:Int))]:=by rw[ZaZ,ZaZ,Zg5,hn];simp[ZhL,ha]
    have e2:ZaR l (k+1)=ZaR l k++[(k:Int)]:=by rw[ZaR,ZaR,Zg5,hn];simp
    refine kw1 kO (kc4 hp hcl @c' @Zal) kc0 ?_;refine⟨k+1,?_,kN (kc7 e1 e2 @uG.{0} @yL.{0} @uQ.{0,0} @uT.{0,0} @yH.{0,0}) [(901,46),(902,51)],?_⟩
    ·exact hlt
    ·omega
  ·obtain rfl:k=l.length:=by omega
   refine kw1 kO kc0 kc0 ?_;refine⟨_,rfl,⟨_,_,_,_,rfl,?_⟩,ZbF (o:=902) rfl rfl (by simp) (by rw[uD (by simp)]),trivial⟩;simp(disch:=omega) only[go_sem,simprocAttr];rw[Zal]
end Go.Proofs.YtjjbhjnpeenbkaaGreatDoor.Gr
namespace Go.Proofs.YtjjbhjnpeenbkaaGreatDoor.Gr
open Go Go.PS Go.Proofs Go.Proofs.YtjjbhjnpeenbkaaGreatDoor Go.Proofs.YtjjbhjnpeenbkaaGreatDoor.Al
open Go.Cy (NA InN Zbk Za5)
set_option maxRecDepth 100000
section draw
variable {g:Gph}{y:List Int}{ls:List (List Int)}{sep:Int}
theorem ZBF (b:Int×Int){r:List Int}(hr:∀v,v∈r->0<=v){σ:PS3}(hσ:σ.1.length=g.ns.length):∀j,
  (∀v:Nat,v<g.ns.length->(v:Int)∈r.take j->(plI g y b r σ j).1[v]? =some (plB g y b v)/\(plI g y b r σ j).2.1<=(plB g y b v).1/\(plI g y b r σ j).2.2=true)/\
  (∀v:Nat,¬(v:Int)∈r.take j->(plI g y b r σ j).1[v]? =σ.1[v]?)/\(σ.2.2=true->(plI g y b r σ j).2.2=true/\(plI g y b r σ j).2.1<=σ.2.1):=by
 intro j
 induction j with
 |zero=>exact⟨λ v _ h=>by simp at h,λ v _=>rfl,λ h=>⟨h,qX _⟩⟩
 |succ j ih=>
  obtain⟨i1,i2,i3⟩:=ih;have hl:=(ZoE g y b r σ j).trans hσ;rcases uE j r.length with hlt|hge
  ·obtain⟨v,hv⟩:=Zac hlt;have hv0:=hr v (uA hv);rw[ZtB hv,ZaA hv,plS];generalize plI g y b r σ j=τ at*;obtain⟨m,rfl⟩:∃m:Nat,v=m:=⟨v.toNat,by omega⟩;split
   ·rename_i c;have hm:m<g.ns.length:=by omega
    rw[uM];have key:∀x:Int,τ.2.1<=x->τ.2.2=true->(if τ.2.2=false\/(plB g y b m).1<τ.2.1 then(plB g y b m).1 else τ.2.1)<=x:=λ x hx ht=>by
     split
     ·rename_i hc;rcases hc with hc|hc
      ·rw[ht]at hc;cases hc
      ·omega
     ·exact hx
    refine⟨λ u hu hin=>?_,λ u hin=>?_,λ hs=>?_⟩
    ·dsimp only;by_cases e:u=m
     ·subst e;refine⟨gQ (by omega),?_,rfl⟩;split
      ·exact qX _
      ·rename_i hc;omega
     ·have hin2:(u:Int)∈r.take j:=by
       rcases yK.1 hin with h|h
       ·exact h
       ·rw[uS]at h;omega
      obtain⟨j1,j2,j3⟩:=i1 u hu hin2;exact⟨by rw[jJ (λ h=>e h.symm)];exact j1,key _ j2 j3,rfl⟩
    ·dsimp only;have:u≠m:=λ e=>hin (yK.2 (.inr (by rw[e];simp)))
     rw[jJ (λ h=>this h.symm)];exact i2 u (λ h=>hin (yK.2 (.inl h)))
    ·obtain⟨k1,k2⟩:=i3 hs;exact⟨rfl,key _ k2 k1⟩
   ·rename_i c;refine⟨λ u hu hin=>?_,λ u hin=>i2 u (λ h=>hin (yK.2 (.inl h))),i3⟩;rcases yK.1 hin with h|h
    ·exact i1 u hu h
    ·rw[uS]at h;omega
  ·have e:r.take (j+1)=r.take j:=by rw[uD hge,uD (by omega)]
   have e2:plI g y b r σ (j+1)=plI g y b r σ j:=by rw[plI,uN hge]
   rw[e,e2];exact⟨i1,i2,i3⟩
theorem ZBG (hu:ls.flatten.Nodup)(h0:∀r,r∈ls->∀v,v∈r->0<=v):∀k,∀(i:Nat) r (v:Nat),i<k->ls[i]? =some r->(v:Int)∈r->v<g.ns.length->
  (plO g y ls sep k).1[v]? =some (plB g y (ZaX g ls sep i,hL g ls i) v)/\(plO g y ls sep k).2.1<=(plB g y (ZaX g ls sep i,hL g ls i) v).1/\(plO g y ls sep k).2.2=true:=by
 intro k
 induction k with
 |zero=>intro i r v h;omega
 |succ k ih=>
  intro i r v hi hr hv hn;rcases uE k ls.length with hlt|hge
  ·obtain⟨q,hq⟩:=Zac hlt;obtain⟨a1,a2,a3⟩:=ZBF (g:=g) (y:=y) (ZaX g ls sep k,hL g ls k) (h0 q (uA hq)) (ZlW g y ls sep k) q.length;rw[ZtC hq];rw[yE]at a1 a2;by_cases e:i=k
   ·subst e;rw[hq]at hr;cases hr;exact a1 v hn hv
   ·obtain⟨b1,b2,b3⟩:=ih i r v (by omega) hr hv hn;have hnq:¬(v:Int)∈q:=λ hin=>by
     obtain⟨p,hp⟩:=yV.1 hv;obtain⟨p',hp'⟩:=yV.1 hin;have e1:=ZbT.lay hu (v:=(v:Int)) (r:=i) (p:=p) ⟨r,hr,hp⟩;have e2:=ZbT.lay hu (v:=(v:Int)) (r:=k) (p:=p') ⟨q,hq,hp'⟩;omega
    rw[a2 v hnq];obtain⟨c1,c2⟩:=a3 b3;exact⟨b1,by omega,c1⟩
  ·have hi2:=(uB.1 hr).1;have e:plO g y ls sep (k+1)=plO g y ls sep k:=by rw[plO,uN hge]
   rw[e];exact ih i r v (by omega) hr hv hn
theorem Zis (h:Low g)(hs:0<=sep){i:Nat}:∀{k:Nat},i<k->ZaX g ls sep i+hL g ls i+sep<=ZaX g ls sep k:=by
 intro k
 induction k with
 |zero=>intro h;omega
 |succ k ih=>
  intro hik;have:=ZfX h ls k;have e:ZaX g ls sep (k+1)=ZaX g ls sep k+(hL g ls k+sep):=rfl;by_cases c:i=k
  ·subst c;omega
  ·have:=ih (by omega);omega
end draw
theorem ZC5 {a:Lv}{ws:List Int}{sep:Int}{X:List Int}(hc:(Zb6 ws sep a.2.1 a.2.1.length).any (ZhO X)=false){i:Nat}{r:List Int}(hr:a.2.1[i]? =some r){p:Nat}{u v:Int}(hu:r[p]? =some u)(hv:r[p+1]? =some v):
  apF ws sep u v<=at0 X v-at0 X u:=by
 have hi:=(uB.1 hr).1;have hp:=(uB.1 hv).1;have eu:at0 r (p:Nat)=u:=by rw[at0,uM,hu];rfl
 have ev:at0 r ((p+1:Nat):Int)=v:=by rw[at0,uM,hv];rfl
 have hm:(u,v,apF ws sep u v,0)∈Zb6 ws sep a.2.1 a.2.1.length:=Zib.2 ⟨i,hi,by
  rw[prL,hr];exact uP.2 ⟨p,uZ.2 (by omega),by rw[Zl3,eu,ev]⟩⟩
 have:=yS.1 hc _ hm;simp only[ZhO,uF]at this;omega
theorem Zl8 {a:Lv}{ws:List Int}{sep:Int}{X:List Int}(h:VA a ws sep)(hc:(Zb6 ws sep a.2.1 a.2.1.length).any (ZhO X)=false){i:Nat}{r:List Int}(hr:a.2.1[i]? =some r){p:Nat}{u:Int}(hu:r[p]? =some u):
  ∀q v,p<q->r[q]? =some v->at0 X u-Zd1 ws u/2+Zd1 ws u+sep<=at0 X v-Zd1 ws v/2:=by
 have hsep:=h.sep;intro q
 induction q with
 |zero=>intro v hq;omega
 |succ q ih=>
  intro v hpq hv;have hq:=(uB.1 hv).1;obtain⟨w,hw⟩:=Zac (show q<r.length by omega);have h1:=ZC5 hc hr hw hv;have w1:=ZhF h u;have w2:=ZhF h w;have w3:=ZhF h v;rw[apF]at h1;by_cases c:p=q
  ·subst c;rw[hu]at hw;cases hw;omega
  ·have:=ih w (by omega) hw;omega
theorem Zpv {g:Gph}{v:Nat}{n:Nd}(h:g.ns[v]? =some n):Zd1 (Zbf g) v=n.w:=by
 have hl:=(uB.1 h).1;rw[Zd1,if_pos (by rw[Zbf,uC];omega),at0,uM,Zbf,uI,h];rfl
theorem ZCq {g:Gph}{r:List Int}(hb:(Zay (pGr g) r).2=0){z:Lv}(hK:Kin (Zay (pGr g) r).1 z){v:Nat}(hv:v<g.ns.length):∃row,z.2.1[(at0 r v).toNat]? =some row/\(v:Int)∈row:=by
 have b:=built hb;have hrl:r.length=g.ns.length:=by have:=b.len;rw[pGr]at this;dsimp only at this;omega
 have hl:=Zsf b.vals (n:=v) (by rw[Zas,uG];omega);have ha:at0 (Zas r (pGr g).2 (pGr g).2.length) v=at0 r v:=by
  rw[at0,at0,Zas,uM,qE (by omega)]
 have h0:=b.rk v;rw[ha]at hl;have hmem:(v:Int)∈(ZbH (Zas r (pGr g).2 (pGr g).2.length) (ZfZ (pGr g) r)).flatten:=Ze9.1 (by omega);obtain⟨row,hr,hvr⟩:=zK.1 hmem;obtain⟨i,hi⟩:=yV.1 hr;obtain⟨p,hp⟩:=yV.1 hvr;have e:=ZbT.lay ZnZ (v:=(v:Int)) (r:=i) (p:=p) ⟨row,hi,hp⟩;have ei:(at0 r v).toNat=i:=by omega
 have hlay:(Zay (pGr g) r).1.2.1[i]? =some row:=by rw[b.eq];dsimp only;rw[Zn4];exact hi
 have hil:=(uB.1 hlay).1;have hz:=hK.lay hil;refine⟨_,by rw[ei];exact hz,?_⟩;have:=(hK.perm i).mem_iff (a:=(v:Int));rw[ZdV hlay]at this;exact this.2 hvr
theorem Zwr {g:Gph}{r:List Int}(hb:(Zay (pGr g) r).2=0){i:Nat}{a:NA}(ha:(Za3 g)[i]? =some a)(hn:a.1≠a.2):at0 r a.1<at0 r a.2:=by
 have hi:=(uB.1 ha).1;have hm:i∈ksF (Za3 g) (Za3 g).length:=by
  rw[ksF,zQ,uZ];exact⟨hi,by rw[ZdW,ha];simp[hn]⟩
 obtain⟨k,hk⟩:=yV.1 hm;have:=(built hb).gap k ((a.1:Int),(a.2:Int)) (by rw[pGr];dsimp only;rw[ZaZ,uI,hk];simp[ZhL,ha]);dsimp only at this;omega
theorem Zja {b:Bx}(h:okB b=true):(-268435456<=b.1/\b.1<=268435456)/\(-268435456<=b.2.1/\b.2.1<=268435456)/\(-268435456<=b.2.2.1/\b.2.2.1<=268435456)/\-268435456<=b.2.2.2/\b.2.2.2<=268435456:=by
 simp only[okB,inC,uL,uF]at h;omega
def ZdD (g:Gph)(y:List Int)(ls:List (List Int))(sep:Int):List Bx:=(plO g y ls sep ls.length).1.map (shB (plO g y ls sep ls.length).2.1)
structure Drawn (g:Gph)(o:Opt)(R:Nat->Nat)(bs:List Bx):Prop where
 len:bs.length=g.ns.length
 one:∀v:Nat,v<g.ns.length->∃b n,bs[v]? =some b/\g.ns[v]? =some n/\b.2.2.1-b.1=n.w/\b.2.2.2-b.2.1=n.h/\0<=b.1/\0<=b.2.1/\okB b=true
 two:∀(u v:Nat) b c,u<g.ns.length->v<g.ns.length->u≠v->bs[u]? =some b->bs[v]? =some c->
  (R u=R v->o.nsep<=b.1-c.2.2.1\/o.nsep<=c.1-b.2.2.1)/\¬((b.1<c.2.2.1/\c.1<b.2.2.1)/\b.2.1<c.2.2.2/\c.2.1<b.2.2.2)
 dn:∀(u v:Nat) b c,u<g.ns.length->v<g.ns.length->R u<R v->bs[u]? =some b->bs[v]? =some c->o.rsep<=c.2.1-b.2.2.2
theorem Zq3 {g:Gph}{ls:List (List Int)}{ar:List Arc}{cs:List (List Int)}{y:List Int}{R:Nat->Nat}{nsep sep:Int}(hV:VA ((g.ns.length:Int),ls,ar,cs) (Zbf g) nsep)(hp:PlOk g y ls)
  (hR:∀v:Nat,v<g.ns.length->∃row,ls[R v]? =some row/\(v:Int)∈row){v:Nat}(hv:v<g.ns.length):∃n row,g.ns[v]? =some n/\ls[R v]? =some row/\(v:Int)∈row/\
   (ZdD g y ls sep)[v]? =some (shB (plO g y ls sep ls.length).2.1 (at0 y v-n.w/2,ZaX g ls sep (R v)+(hL g ls (R v)-n.h)/2,at0 y v-n.w/2+n.w,ZaX g ls sep (R v)+(hL g ls (R v)-n.h)/2+n.h))/\
   (plO g y ls sep ls.length).2.1<=at0 y v-n.w/2/\n.h<=hL g ls (R v):=by
 obtain⟨n,hn⟩:=Zac hv;obtain⟨row,h1,h2⟩:=hR v hv;obtain⟨h3,h4,_⟩:=ZBG (g:=g) (y:=y) (sep:=sep) hV.nodup (λ r hr v hv=>((hp.hv r hr).2 v hv).1) ls.length (R v) row v (uB.1 h1).1 h1 h2 hv;obtain⟨j,hj⟩:=yV.1 h2;have hh:=ZnJ (g:=g) h1 hj (by omega);rw[ZjW hn]at hh;rw[ZlV hn]at h3 h4;exact⟨n,row,hn,h1,h2,by rw[ZdD,uI,h3];rfl,h4,hh⟩
theorem drawn {g:Gph}{o:Opt}{ls:List (List Int)}{ar:List Arc}{cs:List (List Int)}{y:List Int}{R:Nat->Nat}(hV:VA ((g.ns.length:Int),ls,ar,cs) (Zbf g) o.nsep)
  (hq:(Zb6 (Zbf g) o.nsep ls ls.length).any (ZhO y)=false)(hp:PlOk g y ls)(hs:0<=o.rsep)(hR:∀v:Nat,v<g.ns.length->∃row,ls[R v]? =some row/\(v:Int)∈row)(hok:(ZdD g y ls o.rsep).all okB=true):Drawn g o R (ZdD g y ls o.rsep):=by
 have hsep:=hV.sep;have hlen:(ZdD g y ls o.rsep).length=g.ns.length:=by rw[ZdD,uC,ZlW]
 have key:=λ v hv=>Zq3 (sep:=o.rsep) hV hp hR (v:=v) hv
 generalize(plO g y ls o.rsep ls.length).2.1=m at*;generalize ZdD g y ls o.rsep=bs at*;have dn0:∀(u v:Nat) b c,u<g.ns.length->v<g.ns.length->R u<R v->bs[u]? =some b->bs[v]? =some c->o.rsep<=c.2.1-b.2.2.2:=λ u v b c hu hv hlt hb hc=>by
  obtain⟨n1,r1,a1,a2,a3,a4,a5,a6⟩:=key u hu;obtain⟨n2,r2,b1,b2,b3,b4,b5,b6⟩:=key v hv;rw[hb]at a4;cases a4;rw[hc]at b4;cases b4;have:=Zis (ls:=ls) (sep:=o.rsep) hp.low hs hlt;have q1:=hp.nd n1 (uA a1);have q2:=hp.nd n2 (uA b1);simp only[shB];omega
 refine⟨hlen,λ v hv=>?_,λ u v b c hu hv huv hb hc=>?_,dn0⟩
 ·obtain⟨n,row,a1,a2,a3,a4,a5,a6⟩:=key v hv;have q1:=hp.nd n (uA a1);have ht:0<=ZaX g ls o.rsep (R v):=by
   rcases qM (R v)with h|h
   ·rw[h];exact qX _
   ·have h1:=Zis (g:=g) (ls:=ls) (sep:=o.rsep) hp.low hs h;have h2:=ZfX hp.low ls 0;have h3:ZaX g ls o.rsep 0=0:=rfl;omega
  refine⟨_,n,a4,a1,?_,?_,?_,?_,uX.1 hok _ (uA a4)⟩<;>simp only[shB]<;>omega
 ·have hsame:R u=R v->o.nsep<=b.1-c.2.2.1\/o.nsep<=c.1-b.2.2.1:=λ he=>by
   obtain⟨n1,r1,a1,a2,a3,a4,a5,a6⟩:=key u hu;obtain⟨n2,r2,b1,b2,b3,b4,b5,b6⟩:=key v hv;rw[hb]at a4;cases a4;rw[hc]at b4;cases b4;rw[he]at a2;rw[a2]at b2;cases b2;obtain⟨p,hp1⟩:=yV.1 a3;obtain⟨q,hq1⟩:=yV.1 b3;have w1:=Zpv a1;have w2:=Zpv b1;simp only[shB];rcases jT p q with h|h|h
   ·have:=Zl8 hV hq (i:=R v) a2 hp1 q _ h hq1;rw[w1,w2]at this
    right;omega
   ·subst h;rw[hp1]at hq1;have:(u:Int)=v:=zR hq1;omega
   ·have:=Zl8 hV hq (i:=R v) a2 hq1 p _ h hp1;rw[w1,w2]at this
    left;omega
  refine⟨hsame,λ⟨⟨x1,x2⟩,y1,y2⟩=>?_⟩;rcases jT (R u) (R v)with h|h|h
  ·have:=dn0 u v b c hu hv h hb hc;omega
  ·have:=hsame h;omega
  ·have:=dn0 v u c b hv hu h hc hb;omega
theorem ZBf {g:Gph}{r:List Int}(hb:(Zay (pGr g) r).2=0)(n:Nat):(Zcl (Zbx (Zay (pGr g) r).1 n)).1=g.ns.length:=by
 rw[Zcl,Zt5,Zm7,(built hb).eq];rfl
structure Parts (g:Gph)(o:Opt)(R:Nat->Nat)(zl:List (List Int))(za:List Arc)(zc:List (List Int))(y:List Int):Prop where
 va:VA ((g.ns.length:Int),zl,za,zc) (Zbf g) o.nsep
 pl:PlOk g y zl
 ny:g.ns.length<=y.length
 yl:y.length=tot zl
 gap:(Zb6 (Zbf g) o.nsep zl zl.length).any (ZhO y)=false
 rk:∀v:Nat,v<g.ns.length->∃row,zl[R v]? =some row/\(v:Int)∈row
 wd:wide ((g.ns.length:Int),zl,za,zc)
 lay:∀v:Nat,v<g.ns.length->Zav zl v=R v
 al:za.length<=700
 solve:Zaa Tryz.prog 17 [lvD ((g.ns.length:Int),zl,za,zc),Zab (Zbf g), .int o.nsep] (.tup [Zab y, .int 0])
 bal:∃A f b f2,Sx.Best (ZeE ((g.ns.length:Int),zl,za,zc)) (Zdl ((g.ns.length:Int),zl,za,zc) (Zbf g) o.nsep) A f/\Sx.Best (ZeE ((g.ns.length:Int),zl,za,zc)) ((Zdl ((g.ns.length:Int),zl,za,zc) (Zbf g) o.nsep).map Sx.mirB) b f2/\Bal ((g.ns.length:Int),zl,za,zc) (Zbf g) o.nsep (Sx.midF A b)/\y=Zey (Sx.midF A b) (tot zl)
theorem Ztm {g:Gph}{o:Opt}{r f:List Int}(hs:Zbs g)(ho:okO o=true)(hl:g.es.length<=11)(hB:Sx.Best g.ns.length (Zck g).2 r f)(hb:(Zay (pGr g) r).2=0)(hv:Zar (Zay (pGr g) r).1=true):
  ∃zl za zc y,Zcl (Zbx (Zay (pGr g) r).1 o.rd.toNat)=((g.ns.length:Int),zl,za,zc)/\Parts g o (λ v=>(at0 r v).toNat) zl za zc y:=by
 have hpl:=Zoy (g:=g);obtain⟨q1,q2⟩:=Zqy hb hs.n8 (by omega);have hKb:=Zm6 hv q1 o.rd.toNat;obtain⟨hK,_,_⟩:=ZCt hKb;have hV:=ZBg hs ho hb hK.ok;have hnum:=ZBf hb o.rd.toNat;have hR:=λ v hv=>ZCq hb hK (v:=v) hv
 generalize Zcl (Zbx (Zay (pGr g) r).1 o.rd.toNat)=z at*;have hza:z.2.2.1.length<=700:=by rw[hK.arcs];exact q2
 obtain⟨A,f,b,f2,hA,hB2,hM⟩:=ZwM hV hza;have hml:(Sx.midF A b).length=tot z.2.1+z.2.2.1.length:=hM.len;have htt:=hV.tt;have s1:=ZjA z (Zbf g) o.nsep (Sx.midF A b) hK.wd hV (by omega) hM.calls (by omega) hM.bd;have hck:=ZyD hV hM;have hyl:=Zrn (Sx.midF A b) (tot z.2.1);have hyb:∀v:Nat,0<=at0 (Zey (Sx.midF A b) (tot z.2.1)) v/\at0 (Zey (Sx.midF A b) (tot z.2.1)) v<=34359738368:=λ v=>by
  rcases uE v (tot z.2.1)with h|h
  ·rw[ZnB (by omega) (by omega)];obtain⟨l1,l2⟩:=ZsA hV hM (by omega);have:=l2 v h;have:=(hM.bd v (by omega)).2;omega
  ·rw[at0,uM,uN (by omega)];decide
 have hwk:=hK.wd;have hok:=hK.ok;have hlay:∀v:Nat,v<g.ns.length->Zav z.2.1 v=((at0 r v).toNat:Nat):=λ v hv=>by
  obtain⟨row,e1,e2⟩:=hR v hv;obtain⟨p,hp⟩:=yV.1 e2;exact ZbT.lay hV.nodup (v:=(v:Int)) (p:=p) ⟨row,e1,hp⟩
 clear hK;generalize hy:Zey (Sx.midF A b) (tot z.2.1)=y at*;obtain⟨zn,zl,za,zc⟩:=z;dsimp only at hnum hyl hR htt hy hlay hza;subst hnum;refine⟨zl,za,zc,y,rfl,hV,?_,?_,hyl,?_,hR,hwk,hlay,hza,s1,A,f,b,f2,hA,hB2,hM,hy.symm⟩
 ·refine⟨λ n hn=>?_,hyb,hV.ls,λ q hq=>⟨?_,λ v hv=>?_⟩⟩
  ·obtain⟨k,hk⟩:=yV.1 hn;exact ZsZ hs.ok hk
  ·obtain⟨i,hi⟩:=yV.1 hq;have:=Zsd hok i;rw[ZdV hi]at this;omega
  ·have:=hV.vert q hq v hv;dsimp only at this;omega
 ·rcases qM g.ns.length with h|h
  ·omega
  ·obtain⟨row,e1,e2⟩:=hR (g.ns.length-1) (by omega);have:=hV.vert row (uA e1) _ e2;dsimp only at this;omega
 ·rw[Znc,hV.ok,if_pos rfl]at hck;split at hck
  ·split at hck
   ·cases hck
   ·rename_i h;simpa using h
  ·cases hck
end Go.Proofs.YtjjbhjnpeenbkaaGreatDoor.Gr
namespace Go.Proofs.YtjjbhjnpeenbkaaGreatDoor.Gr
open Go Go.PS Go.Proofs Go.Proofs.YtjjbhjnpeenbkaaGreatDoor Go.Proofs.YtjjbhjnpeenbkaaGreatDoor.Al
set_option maxRecDepth 100000
attribute [local irreducible] Zad wpG Zaa Zag
def ZcC (g:Gph)(ls:List (List Int))(sep:Int)(k:Nat):List Int:=(List.range k).map λ i=>ZaX g ls sep i
def ZdQ (g:Gph)(ls:List (List Int))(k:Nat):List Int:=(List.range k).map λ i=>hL g ls i
theorem Zvm (g:Gph)(ls:List (List Int))(sep:Int)(k:Nat):(ZcC g ls sep k).length=k:=by simp[ZcC]
theorem ZrM (g:Gph)(ls:List (List Int))(k:Nat):(ZdQ g ls k).length=k:=by simp[ZdQ]
theorem ZCe (g:Gph)(o:Opt)(ls:List (List Int))(ar:List Arc)(cs:List (List Int))(h:Low g)(hs:0<=o.rsep/\o.rsep<=1048576)(hl:ls.length<=256)(hn:g.ns.length<=1000)(hv:∀y∈ls,y.length<=100000/\∀v∈y,0<=v):
  Zaa Tryz.prog 69 [ZaN g,ZbI o,lvD (g.ns.length,ls,ar,cs)] (.tup [Zab (ZcC g ls o.rsep ls.length),Zab (ZdQ g ls ls.length)]):=by
 refine kE Tryz.func69 ?_;intro hat B X w0;refine kw1 kO kc0 kc0 ?_;refine Zao _ (Zcy 8 901 1 rfl rfl) ?_;refine Zao _ (Zcy 9 902 1 rfl rfl) ?_;refine Zaf (λ(k:Nat)=>k<=ls.length) (λ k=>[(3, .ptr 3 0 0 0),(4, .ptr 4 0 0 0),(5, .ptr 5 0 0 0),(8, .ref 901 1 0 (ZcC g ls o.rsep k).length (ZcC g ls o.rsep k).length),(9, .ref 902 1 0 (ZdQ g ls k).length (ZdQ g ls k).length),(10, .int (ZaX g ls o.rsep k)),(11, .int k)]) (λ k=>[(3, .cells [.d (Za1 g.nm), .d (.bool g.dir), .d (.sl (g.ns.map ndD)), .d (.sl (g.es.map edD)), .d (.sl (g.cs.map clD))]),(4, .cells [.int o.md, .int o.nsep, .int o.rsep, .int o.mg, .int o.rd]),(5, .cells [.int g.ns.length, .d (Zae ls), .d (Zaj ar), .d (Zae cs)]),(901, .row 1 ((ZcC g ls o.rsep k).map D.int)),(902, .row 1 ((ZdQ g ls k).map D.int))]) (λ k=>ls.length-k) 0 ?_ ?_ ?_
 ·exact uH _
 ·exact kN (kc6 @ZcC.eq_1 @ZdQ.eq_1 @jG @yH.{0,0} @uY.{0} @ZaX.eq_1) []
 ·intro k hk;have htl:=Zvm g ls o.rsep k;have hhl:=ZrM g ls k;have ht:=Zmo h ls hs k;rcases uE k ls.length with hlt|hge
  ·obtain⟨y,hy⟩:=Zac hlt;obtain⟨hy1,hy2⟩:=hv y (uA hy);have hh:=ZfX h ls k;have eh:hL g ls k=hN g y y.length:=by rw[hL,hy]
   have et:ZaX g ls o.rsep (k+1)=ZaX g ls o.rsep k+(hL g ls k+o.rsep):=rfl;have e1:ZcC g ls o.rsep (k+1)=ZcC g ls o.rsep k++[ZaX g ls o.rsep k]:=by rw[ZcC,ZcC,qN,uQ];rfl
   have e2:ZdQ g ls (k+1)=ZdQ g ls k++[hL g ls k]:=by rw[ZdQ,ZdQ,qN,uQ];rfl
   generalize hT:ZaX g ls o.rsep k=T at*;generalize hA:ZcC g ls o.rsep k=TA at*;generalize hB:ZdQ g ls k=HA at*;refine kw1 kO kc0 kc0 ?_;refine Zaf (λ(j:Nat)=>j<=y.length) (λ j=>[(3, .ptr 3 0 0 0),(4, .ptr 4 0 0 0),(5, .ptr 5 0 0 0),(8, .ref 901 1 0 TA.length TA.length),(9, .ref 902 1 0 HA.length HA.length),(10, .int T),(11, .int k),(12, .int (hN g y j)),(13, .int j)]) (λ j=>[(3, .cells [.d (Za1 g.nm), .d (.bool g.dir), .d (.sl (g.ns.map ndD)), .d (.sl (g.es.map edD)), .d (.sl (g.cs.map clD))]),(4, .cells [.int o.md, .int o.nsep, .int o.rsep, .int o.mg, .int o.rd]),(5, .cells [.int g.ns.length, .d (Zae ls), .d (Zaj ar), .d (Zae cs)]),(901, .row 1 (TA.map D.int)),(902, .row 1 (HA.map D.int))]) (λ j=>y.length-j) 0 ?_ ?_ ?_
   ·exact uH _
   ·exact kN (kc1 @hN.eq_1) []
   ·intro j hj;rcases uE j y.length with hjl|hjg
    ·obtain⟨v,hvj⟩:=Zac hjl;have hv0:=hy2 v (uA hvj);obtain⟨v,rfl⟩:∃m:Nat,v=m:=⟨v.toNat,by omega⟩;have es:hN g y (j+1)=if(v:Int)<g.ns.length then(if hN g y j<Zez g v then Zez g v else hN g y j)else hN g y j:=by rw[hN,hvj]
     by_cases c:(v:Int)<g.ns.length
     ·obtain⟨n,hn⟩:=Zac (l:=g.ns) (k:=v) (by omega);rw[if_pos c,ZjW hn]at es;refine kw1 kO (kc4 hy hvj c hn) kc0 ?_;refine⟨j+1,?_,kN (kc1 es) [],?_⟩
      ·exact hjl
      ·omega
     ·rw[if_neg c]at es;refine kw1 kO (kc3 hy hvj c) kc0 ?_;refine⟨j+1,?_,kN (kc1 es) [],?_⟩
      ·exact hjl
      ·omega
    ·obtain rfl:j=y.length:=by omega
     rw[<-eh];have hk1:(TA.map D.int).take k=TA.map D.int:=uD (by simp[htl]);have hk2:(HA.map D.int).take k=HA.map D.int:=uD (by simp[hhl]);refine kw1 kO (kc5 hy htl hhl hk1 hk2) kc0 ?_;refine⟨k+1,?_,kN (kc8 et e1 e2 @uG.{0} @yL.{0} @uQ.{0,0} @uT.{0,0} (kc3 @yH.{0,0} htl hhl)) [(901,56),(902,60)],?_⟩
     ·exact hlt
     ·omega
  ·obtain rfl:k=ls.length:=by omega
   refine kw1 kO kc0 kc0 ?_;exact⟨_,rfl,ZbF (o:=901) rfl rfl (by simp) (by rw[uD (by simp)]),ZbF (o:=902) rfl rfl (by simp) (by rw[uD (by simp)]),trivial⟩
end Go.Proofs.YtjjbhjnpeenbkaaGreatDoor.Gr
