/- Place by the program. -/
import Derived.Test.YtjjbhjnpeenbkaaGreatDoorLyA
import Derived.Test.YtjjbhjnpeenbkaaGreatDoorAlH
import Derived.Test.YtjjbhjnpeenbkaaGreatDoorCyM
import Derived.Test.YtjjbhjnpeenbkaaGreatDoorGrG
import Derived.Test.YtjjbhjnpeenbkaaGreatDoorSxVc
import Derived.Test.YtjjbhjnpeenbkaaGreatDoorSxA
set_option linter.unusedSimpArgs false
set_option linter.unusedVariables false
set_option maxHeartbeats 16000000
namespace Go.Proofs.YtjjbhjnpeenbkaaGreatDoor.Gr
open Go Go.PS Go.Proofs Go.Proofs.YtjjbhjnpeenbkaaGreatDoor Go.Proofs.YtjjbhjnpeenbkaaGreatDoor.Al
set_option maxRecDepth 100000
attribute [local irreducible] Zad wpG Zaa Zah
theorem ZxO (g:Gph){r:List Int}{j:Nat}{v:Int}(h:r[j]? =some v)(hv:v<g.ns.length):∀k,j<k->Zfp g v<=hN g r k:=by
 intro k
 induction k with
 |zero=>intro h;omega
 |succ k ih=>
  intro hjk;rw[hN];rcases uC j k with h1|h1
  ·have:=ih h1;split
   ·split
    ·split<;>omega
    ·exact this
   ·exact this
  ·obtain rfl:j=k:=by omega
   rw[h];dsimp only;rw[if_pos hv];split<;>omega
theorem ZxN {g:Gph}{ls:List (List Int)}{k:Nat}{r:List Int}(hr:ls[k]? =some r){j:Nat}{v:Int}(h:r[j]? =some v)(hv:v<g.ns.length):Zfp g v<=hL g ls k:=by
 rw[hL,hr];exact ZxO g h hv _ (uB.1 h).1
theorem ZEi (g:Gph):∀k,k<=g.ns.length->((ZcY g).take k).length=k:=λ k hk=>by rw[yF,ZcY,uD];omega
theorem ZuU {g:Gph}{o:Opt}{ls:List (List Int)}{ar:List Arc}{cs:List (List Int)}{y:List Int}{c:Int}(hp:PlOk g y ls)(hs:0<=o.rsep/\o.rsep<=1048576)(hn:g.ns.length<=1000)(hyl:g.ns.length<=y.length)
  (h1:Zaa Tryz.prog 13 [Zbf g,ZiS o] (.tup [lvD (g.ns.length,ls,ar,cs), .int c, .int 0]))
  (h2:Zaa Tryz.prog 17 [lvD (g.ns.length,ls,ar,cs),Zab (ZcY g), .int o.nsep] (.tup [Zab y, .int 0])):
  Zaa Tryz.prog 21 [Zbf g,ZiS o] (if(((plO g y ls o.rsep ls.length).1.map (shB (plO g y ls o.rsep ls.length).2.1)).all okB)=true then(.tup [.sl (((plO g y ls o.rsep ls.length).1.map (shB (plO g y ls o.rsep ls.length).2.1)).map bxD),lvD (g.ns.length,ls,ar,cs), .int 0])else(.tup [.sl [],lvD lv0, .int 2])):=by
 have h3:=ZvE g ls ar cs o.rsep hp.low hs hp.hl (λ r hr=>⟨(hp.hv r hr).1,λ v hv=>((hp.hv r hr).2 v hv).1⟩);refine kE Tryz.func21 ?_;intro hat B X w0;refine kw1 kO kc0 (kc1 h1) ?_;refine Zaq _ (Zc3 10 901 1 rfl rfl) ?_;refine Zae (λ(k:Nat)=>k<=g.ns.length) (λ k=>[(2, .ptr 2 0 0 0),(3, .ptr 3 0 0 0),(5, .ptr 5 0 0 0),(7, .ptr 7 0 0 0),(10, .ref 901 1 0 ((ZcY g).take k).length ((ZcY g).take k).length),(37, .d (.sl (g.ns.map ndD))),(38, .int g.ns.length),(39, .int k)]) (λ k=>[(2, .cells [.d (ZaL g.nm), .d (.bool g.dir), .d (.sl (g.ns.map ndD)), .d (.sl (g.es.map edD)), .d (.sl (g.cs.map clD))]),(3, .cells [.int o.md, .int o.nsep, .int o.rsep, .int o.mg, .int o.rd]),(5, .cells [.int 0, .nilS, .nilS, .nilS]),(7, .cells [.int g.ns.length, .d (Zag ls), .d (Zal ar), .d (Zag cs)]),(901, .row 1 (((ZcY g).take k).map D.int))]) (λ k=>g.ns.length-k) 0 ?_ ?_ ?_
 ·exact uG _
 ·exact kN (kc3 @yU.{0} @yE.{0,0} @uW.{0}) []
 ·intro k hk;have hwl:=ZEi g k hk;rcases uC k g.ns.length with hlt|hge
  ·obtain⟨n,hn⟩:=Zac hlt;have e1:(ZcY g).take (k+1)=(ZcY g).take k++[n.w]:=ZaA (by rw[ZcY,uJ,hn];rfl);have htk:(((ZcY g).take k).map D.int).take k=((ZcY g).take k).map D.int:=uE (by rw[uD,hwl];exact uI _);refine kw1 kO (kc3 hn hwl htk) kc0 ?_;refine⟨k+1,?_,kN (kc7 e1 @uH.{0} @yL.{0} @uR.{0,0} @uS.{0,0} @yE.{0,0} hwl) [(901,47)],?_⟩
   ·exact hlt
   ·omega
  ·obtain rfl:k=g.ns.length:=by omega
   have e2:(ZcY g).take g.ns.length=ZcY g:=uE (by rw[ZcY,uD];exact uI _);have ewl:(ZcY g).length=g.ns.length:=by rw[ZcY,uD]
   rw[e2];refine Zaq _ (Zc2 901 1 ((ZcY g).map D.int) rfl (ZcS _ rfl) (by decide)) ?_;have htw:((ZcY g).map D.int).take g.ns.length=(ZcY g).map D.int:=uE (by rw[uD,ewl];exact uI _);have hbl:=ZpC g ls o.rsep ls.length;have hbD:((Zcs g ls o.rsep ls.length).map ZgX).length=ls.length:=by rw[uD,hbl]
   refine kw1 kO (kc5 ewl htw hbl hbD @qN.{0}) (kc2 h2 h3) ?_;refine Zae (λ(k:Nat)=>k<=ls.length) (λ k=>[(2, .ptr 2 0 0 0),(3, .ptr 3 0 0 0),(5, .ptr 5 0 0 0),(7, .ptr 7 0 0 0),(13, .d (Zab y)),(14, .ref 63 4 0 g.ns.length g.ns.length),(15, .int (plO g y ls o.rsep k).2.1),(16, .bool (plO g y ls o.rsep k).2.2),(68, .d (.sl ((Zcs g ls o.rsep ls.length).map ZgX))),(69, .int ls.length),(70, .int k)]) (λ k=>[(2, .cells [.d (ZaL g.nm), .d (.bool g.dir), .d (.sl (g.ns.map ndD)), .d (.sl (g.es.map edD)), .d (.sl (g.cs.map clD))]),(3, .cells [.int o.md, .int o.nsep, .int o.rsep, .int o.mg, .int o.rd]),(5, .cells [.int 0, .nilS, .nilS, .nilS]),(7, .cells [.int g.ns.length, .d (Zag ls), .d (Zal ar), .d (Zag cs)]),(63, .row 4 ((plO g y ls o.rsep k).1.map bxD))]) (λ k=>ls.length-k) 0 ?_ ?_ ?_
   ·exact uG _
   ·exact kN (kc2 @plO.eq_1 @jJ.{0,0}) []
   ·intro k hk;have hol:=ZAl g y ls o.rsep k;have hom:=ZAm hp o.rsep k;rcases uC k ls.length with hlt|hge
    ·obtain⟨r,hr⟩:=Zac hlt;have eO:=ZAn (g:=g) (y:=y) (sep:=o.rsep) hr;obtain⟨hr1,hr2⟩:=hp.hv r (uA hr);have hbk:(Zcs g ls o.rsep ls.length)[k]? =some (ZdD g ls o.rsep k,hL g ls k):=by rw[Zcs,uJ,qC hlt];rfl
     have ht:=Zug hp.low ls hs k;have hh:=Znh hp.low ls k;have hge:=λ j v h1 h2=>ZxN (g:=g) (ls:=ls) hr (j:=j) (v:=v) h1 h2
     generalize ZdD g ls o.rsep k=T at*;generalize hL g ls k=H at*;refine kw1 kO (kc2 hbk hr) kc0 ?_;refine Zae (λ(j:Nat)=>j<=r.length) (λ j=>[(2, .ptr 2 0 0 0),(3, .ptr 3 0 0 0),(5, .ptr 5 0 0 0),(7, .ptr 7 0 0 0),(13, .d (Zab y)),(14, .ref 63 4 0 g.ns.length g.ns.length),(15, .int (plI g y (T,H) r (plO g y ls o.rsep k) j).2.1),(16, .bool (plI g y (T,H) r (plO g y ls o.rsep k) j).2.2),(18, .ptr 18 0 0 0),(68, .d (.sl ((Zcs g ls o.rsep ls.length).map ZgX))),(69, .int ls.length),(70, .int k),(79, .d (Zab r)),(80, .int r.length),(81, .int j)]) (λ j=>[(2, .cells [.d (ZaL g.nm), .d (.bool g.dir), .d (.sl (g.ns.map ndD)), .d (.sl (g.es.map edD)), .d (.sl (g.cs.map clD))]),(3, .cells [.int o.md, .int o.nsep, .int o.rsep, .int o.mg, .int o.rd]),(5, .cells [.int 0, .nilS, .nilS, .nilS]),(7, .cells [.int g.ns.length, .d (Zag ls), .d (Zal ar), .d (Zag cs)]),(18, .cells [.int T, .int H]),(63, .row 4 ((plI g y (T,H) r (plO g y ls o.rsep k) j).1.map bxD))]) (λ j=>r.length-j) 0 ?_ ?_ ?_
     ·exact uG _
     ·exact kN (kc1 @plI.eq_1) []
     ·intro j hj;have hil:=(Zsx g y (T,H) r (plO g y ls o.rsep k) j).trans hol;have him:=Zsy hp (T,H) (λ v hv=>(hr2 v hv).1) hom j;rcases uC j r.length with hjl|hjg
      ·obtain⟨v,hvj⟩:=Zac hjl;obtain⟨hv0,hv1⟩:=hr2 v (uA hvj);have e1:=ZAk (g:=g) (y:=y) (b:=(T,H)) (σ:=plO g y ls o.rsep k) hvj;have hge:=hge j v hvj;generalize plI g y (T,H) r (plO g y ls o.rsep k) j=σ at*;obtain⟨v,rfl⟩:∃m:Nat,v=m:=⟨v.toNat,by omega⟩;by_cases c:(v:Int)<g.ns.length
       ·obtain⟨n,hn⟩:=Zac (l:=g.ns) (k:=v) (by omega);obtain⟨n1,n2,n3,n4⟩:=hp.nd n (uA hn);have hgn:=hge c;rw[Zq3 hn]at hgn;have hy:y[v]? =some (at0 y v):=at0_at (by omega);obtain⟨y1,y2⟩:=hp.y0 v;have q1:n.w.tdiv 2=n.w/2:=zV (by omega);have q2:(H-n.h).tdiv 2=(H-n.h)/2:=zV (by omega);have eB:=ZAi (g:=g) (y:=y) (b:=(T,H)) hn;have e2:plS g y (T,H) σ v=(σ.1.set v (plB g y (T,H) v),if σ.2.2=false\/(plB g y (T,H) v).1<σ.2.1 then(plB g y (T,H) v).1 else σ.2.1,true):=by rw[plS,if_pos c,uK]
        rw[e2,eB]at e1;dsimp only at e1;obtain⟨S1,S2,S3⟩:=σ;dsimp only at e1 hil him|-;obtain⟨_,m1,m2⟩:=him;dsimp only at m1 m2;obtain⟨b0,hb0⟩:=Zac (l:=S1) (k:=v) (by omega);have hlb:=hp.hl;generalize hx0:at0 y v-n.w/2=x0 at*;have hx1:-1048576<=x0/\x0<=34359738368:=by omega
        rcases S3 with _|_
        ·rw[if_pos (.inl rfl)]at e1;refine kw kO (kc8 hvj c hn hy q1 q2 hx0 (kc2 hil hb0)) kc0 ?_
         repeat' first|exact True.intro|refine Bn.mk ?_ ?_|intro hc
         refine⟨j+1,?_,eL [] _ _ (by refine⟨?_,?_⟩<;>(repeat' first|exact fmn|refine fmc ⟨(by first|rfl|(simp(disch:=omega) only[go_sem,simprocAttr,inL,e1,yR];first|done|omega|(congr 1;done))),?_⟩);done),?_⟩
         ·exact hjl
         ·omega
        ·by_cases d:x0<S2
         ·rw[if_pos (.inr d)]at e1;refine kw kO (kc8 hvj c hn hy q1 q2 hx0 (kc3 hil d hb0)) kc0 ?_
          repeat' first|exact True.intro|refine Bn.mk ?_ ?_|intro hc
          refine⟨j+1,?_,eL [] _ _ (by refine⟨?_,?_⟩<;>(repeat' first|exact fmn|refine fmc ⟨(by first|rfl|(simp(disch:=omega) only[go_sem,simprocAttr,inL,e1,yR];first|done|omega|(congr 1;done))),?_⟩);done),?_⟩
          ·exact hjl
          ·omega
         ·rw[if_neg (by simp;omega)]at e1;refine kw kO (kc8 hvj c hn hy q1 q2 hx0 (kc3 hil d hb0)) kc0 ?_
          repeat' first|exact True.intro|refine Bn.mk ?_ ?_|intro hc
          refine⟨j+1,?_,eL [] _ _ (by refine⟨?_,?_⟩<;>(repeat' first|exact fmn|refine fmc ⟨(by first|rfl|(simp(disch:=omega) only[go_sem,simprocAttr,inL,e1,yR];first|done|omega|(congr 1;done))),?_⟩);done),?_⟩
          ·exact hjl
          ·omega
       ·rw[plS,if_neg c]at e1;refine kw1 kO (kc2 hvj c) kc0 ?_;refine⟨j+1,?_,kN (kc1 e1) [],?_⟩
        ·exact hjl
        ·omega
      ·obtain rfl:j=r.length:=by omega
       rw[<-eO];have hlb:=hp.hl;refine kw1 kO kc0 kc0 ?_;refine⟨k+1,?_,eL [] _ _ (by refine⟨?_,?_⟩<;>(repeat' first|exact fmn|refine fmc ⟨(by first|rfl|(simp(disch:=omega) only[go_sem,simprocAttr,inL];first|done|omega|(congr 1;done))),?_⟩);done),?_⟩
       ·exact hlt
       ·omega
    ·obtain rfl:k=ls.length:=by omega
     generalize plO g y ls o.rsep ls.length=σ at*;obtain⟨S1,S2,S3⟩:=σ;obtain⟨hm0,hm1,hm2⟩:=hom;dsimp only at hm0 hm1 hm2 hol|-;refine kw1 kO (kc1 hol) kc0 ?_;refine Zae (λ(v:Nat)=>v<=g.ns.length/\(∀(j:Nat) b,j<v->S1[j]? =some b->okB (shB S2 b)=true)) (λ v=>[(5, .ptr 5 0 0 0),(7, .ptr 7 0 0 0),(14, .ref 63 4 0 g.ns.length g.ns.length),(15, .int S2),(136, .int g.ns.length),(137, .int v)]) (λ v=>[(5, .cells [.int 0, .nilS, .nilS, .nilS]),(7, .cells [.int g.ns.length, .d (Zag ls), .d (Zal ar), .d (Zag cs)]),(63, .row 4 ((shN S2 S1 v).map bxD))]) (λ v=>g.ns.length-v) 0 ?_ ?_ ?_
     ·exact⟨uG _,λ j b h=>by omega⟩
     ·exact kN (kc1 @shN.eq_1) []
     ·rintro v ⟨hv,hinv⟩;have hsl:=(ZtD S2 S1 v).trans hol;rcases uC v g.ns.length with hvl|hvg
      ·obtain⟨b,hb⟩:=Zac (l:=S1) (k:=v) (by omega);have hg:=ZtC S2 S1 v v;rw[if_neg (by omega),hb]at hg;obtain⟨⟨b1,b2⟩,b3,b4⟩:=hm0 b (uA hb);have e1:shN S2 S1 (v+1)=(shN S2 S1 v).set v (shB S2 b):=by rw[shN,hb]
       have h4:=Zv0 (shB S2 b);generalize shN S2 S1 v=R at*;have hs1:∀X:D,v<((R.map bxD).set v X).length:=λ X=>by rw[yJ,uD];omega
       have hs2:∀X:D,((R.map bxD).set v X)[v]? =some X:=λ X=>by rw[gU (by rw[uD];omega)]
       have hs3:∀X Y:D,v<(((R.map bxD).set v X).set v Y).length:=λ X Y=>by rw[List.set_set];exact hs1 Y
       have hs4:∀X Y:D,(((R.map bxD).set v X).set v Y)[v]? =some Y:=λ X Y=>by rw[List.set_set];exact hs2 Y
       have hs5:∀X Y:D,((R.map bxD).set v X).set v Y=(R.map bxD).set v Y:=λ X Y=>by rw[List.set_set]
       obtain⟨x0,y0,x1,y1⟩:=b;dsimp only[shB]at*;rcases ho:okB (x0-S2,y0,x1-S2,y1)with _|_<;>rw[ho]at h4
       ·refine kw kO (kc7 hg hsl hs1 hs2 hs3 hs4 hs5) (kc1 h4) ?_
        repeat' first|exact True.intro|refine Bn.mk ?_ ?_|intro hc
        rw[if_neg (by rw[List.all_map,Cx,List.all_eq_false];exact⟨_,uA hb,by simp[shB,ho]⟩)];refine⟨_,rfl,rfl,⟨_,_,_,_,rfl,?_⟩,Zaf rfl,trivial⟩;simp(disch:=omega) only[go_sem,simprocAttr]
        all_goals rfl
       ·repeat' first|refine ZbH rfl ?_|refine Za0 ?_|refine wR ?_|(refine rc (h4) rfl ?_ ?_;(· first|rfl|simp(disch:=omega) only[go_sem,simprocAttr,hg,hsl,hs1,hs2,hs3,hs4,hs5]))|(refine ZbM rfl rfl (λ hc=>?_) (λ hc=>?_)<;>try simp only[hcL]at hc)|(refine ZbL _ rfl rfl (λ hc=>?_) (λ hc=>?_)<;>(try simp only[hcL]at hc)<;>try omega)|simp(disch:=omega) only[go_sem,simprocAttr,hg,hsl,hs1,hs2,hs3,hs4,hs5]|apply And.intro|omega|decide+kernel
        refine⟨v+1,?_,eL [] _ _ (by refine⟨?_,?_⟩<;>(repeat' first|exact fmn|refine fmc ⟨(by first|rfl|(simp(disch:=omega) only[go_sem,simprocAttr,inL,e1,yR];first|done|omega|(congr 1;done))),?_⟩);done),?_⟩
        ·exact⟨hvl,Zbj hinv hb ho⟩
        ·omega
      ·obtain rfl:v=g.ns.length:=by omega
       have hall:(S1.map (shB S2)).all okB=true:=by
        rw[List.all_map,uZ];intro b hb;obtain⟨j,hj⟩:=gN.1 hb;exact hinv j b (by have:=(uB.1 hj).1;omega) hj
       rw[if_pos hall,<-ZCr,hol];refine kw1 kO kc0 kc0 ?_;refine⟨_,rfl,Zch (o:=63) rfl rfl (by simp[hsl]) (by rw[uE (by simp[hsl])]),⟨_,_,_,_,rfl,?_⟩,Zaf rfl,trivial⟩;simp(disch:=omega) only[go_sem,simprocAttr]
       all_goals rfl
theorem ZrJ :Zf3 lvA [20000,20000,20000] 10000=(5,[(3,0,0,1),(3,1,0,1),(4,0,0,1),(4,2,0,1),(1,2,30000,0)]):=by decide+kernel
theorem Zy1 :Sx.SolveOk (Zf3 lvA [20000,20000,20000] 10000) [0,0,30000,0,0] [0,2,2,0,1]:=by
 rw[ZrJ];exact Sx.solve_of 5 _ 10 _ _ (by decide+kernel) (by decide+kernel) (by decide+kernel) (by decide+kernel) (by decide+kernel) (by decide+kernel)
theorem Zy0 :Sx.SolveOk (Sx.mirF (Zf3 lvA [20000,20000,20000] 10000)) [0,30000,0,30000,0] [0,2,2,0,1]:=by
 rw[ZrJ];exact Sx.solve_of 5 _ 10 _ _ (by decide+kernel) (by decide+kernel) (by decide+kernel) (by decide+kernel) (by decide+kernel) (by decide+kernel)
theorem ZyV :Zcy lvA [20000,20000,20000] 10000=true:=by
 rw[Zcy,vA];decide+kernel
theorem ZyT :Zaa Tryz.prog 17 [lvD lvA,Zab [20000,20000,20000], .int 10000] (.tup [Zab [15000,0,30000], .int 0]):=by
 have h:=VA.of ZyV;have hB:=Sx.Balanced_ok _ _ _ _ _ Zy1 Zy0 (by decide+kernel) (by decide+kernel) (Sx.fromTo_of (by decide+kernel)) (Sx.fromTo_of (by decide+kernel));rw[show Sx.midF [0,0,30000,0,0] [0,30000,0,30000,0]=[15000,0,30000,0,15000] by decide+kernel]at hB;have s2:=ZkD lvA [20000,20000,20000] 10000 [15000,0,30000,0,15000] ZEj h (by decide) hB (by decide+kernel) (λ v hv=>by
  have:∀v:Nat,v<5->0<=at0 [15000,0,30000,0,15000] v/\at0 [15000,0,30000,0,15000] v<=34359738368:=by decide+kernel
  exact this v hv)
 rw[show Zm6 [15000,0,30000,0,15000] (tot lvA.2.1)=[15000,0,30000] by decide+kernel]at s2;exact s2
theorem ZyU :ZaP (pGr ZdI) [0,1,1]=(lvA,0):=by rw[pGr,Zm2];decide+kernel
theorem Zy2 :swB lvA=lvA:=by decide+kernel
theorem ZrK :∀k,Zdh lvA k=lvA
 |0=>rfl
 |k+1=>by rw[Zdh,ZrK k,Zy2]
theorem ZrI :∀k,Zct lvA k=lvA
 |0=>rfl
 |k+1=>by rw[Zct,ZrK,ZrI k,if_neg (by omega)]
theorem ZrL :Zbk lvA=0:=by
 simp only[Zbk,Zb5,ZjW,ZaT,Zd5,vA]
 decide+kernel
theorem ZrH :∀i,i<2->(ZcM lvA i).2=false:=by
 simp only[ZcM,ZhH,orM,stM,ZdF,ZaT,Zd5,vA]
 decide+kernel
theorem ZyZ :Zfw lvA=lvA:=by
 have h0:=ZrH 0 (by decide);have h1:=ZrH 1 (by decide);rw[Zfw,Zed,ZrL];show ZbY 2 lvA 0=lvA;rw[ZbY,if_pos (by decide),h0,if_neg (by decide),ZbY,if_pos (by decide),h1,if_neg (by decide),ZbY]
abbrev Zlh :Opt:=⟨0,10000,20000,5000,8⟩
theorem ZyW :Zaa Tryz.prog 13 [Zbf ZdI,ZiS Zlh] (.tup [lvD lvA, .int 0, .int 0]):=by
 have h:=ZuS (o:=Zlh) ZqD (by decide) (by decide+kernel) ZqE;rw[Zj4,ZyU,if_pos rfl,Zh6,if_pos ⟨vA,by decide,by decide⟩]at h;dsimp only at h;rw[ZrI,ZyZ,ZrL]at h;exact h
theorem ZyX :PlOk ZdI [15000,0,30000] lvA.2.1:=by
 refine⟨λ n hn=>?_,λ v=>?_,by decide,λ r hr=>?_⟩
 ·simp only[yD,gP,Cc]at hn;rcases hn with rfl|rfl|rfl<;>decide
 ·rcases v with _|_|_|v
  ·decide
  ·decide
  ·decide
  ·rw[at0,uK,uL (by simp)];decide
 ·simp only[yD,gP,Cc]at hr;rcases hr with rfl|rfl
  ·decide
  ·decide
theorem ZyY :Zaa Tryz.prog 21 [Zbf ZdI,ZiS Zlh] (.tup [.sl (([(15000,0,35000,10000),(0,30000,20000,40000),(30000,30000,50000,40000)]:List Bx).map bxD),lvD lvA, .int 0]):=by
 have h:=ZuU (y:=[15000,0,30000]) (c:=0) ZyX (by decide) (by decide) (by decide) ZyW ZyT;have e:(plO ZdI [15000,0,30000] lvA.2.1 20000 2).1.map (shB (plO ZdI [15000,0,30000] lvA.2.1 20000 2).2.1)=[(15000,0,35000,10000),(0,30000,20000,40000),(30000,30000,50000,40000)]:=by decide+kernel
 rw[show(lvA.2.1).length=2 from rfl,show Zlh.rsep=20000 from rfl,e,if_pos (by decide+kernel)]at h;exact h
theorem Zxc :Zaa Tryz.prog 78 [] (Zbf ZdI):=by
 refine kE Tryz.func78 ?_;intro hat B X w0;refine kw1 (kow (Nat.beq 7) (b:=true)) kc0 kc0 ?_;refine⟨_,_,_,_,rfl,?_⟩;simp(disch:=omega) only[go_sem,simprocAttr];rfl
theorem ZB7 (a b:List Bx):Zaa Tryz.prog 37 [.sl (a.map bxD), .sl (b.map bxD)] (.bool (decide (a=b))):=by
 refine kE Tryz.func37 ?_;intro hat B X w0;have hl:=ZaY 0 hat rfl;rw[uD]at hl;by_cases hab:a.length=b.length
 ·have hab':(a.length:Int)=b.length:=by omega
  refine kw1 kO (kc1 @hab') kc0 ?_;refine Zae (λ(k:Nat)=>k<=a.length/\a.take k=b.take k) (λ k=>[(0, .d (.sl (a.map bxD))),(1, .d (.sl (b.map bxD))),(5, .int k)]) (λ k=>[]) (λ k=>a.length-k) 0 ?_ ?_ ?_
  ·exact⟨uG _,rfl⟩
  ·exact kN kc0 []
  ·rintro k ⟨hk,hinv⟩;rcases uC k a.length with hlt|hge
   ·obtain⟨x,hx⟩:=Zac hlt;obtain⟨z,hz⟩:=Zac (l:=b) (k:=k) (by omega);by_cases c:x=z
    ·subst c;refine kw1 kO (kc2 hx hz) kc0 ?_;refine⟨k+1,?_,kN kc0 [],?_⟩
     ·exact⟨hlt,by rw[ZaA hx,ZaA hz,hinv]⟩
     ·omega
    ·repeat' first|refine ZbH rfl ?_|refine Za0 ?_|refine wR ?_|(refine ZbM rfl rfl (λ hc=>?_) (λ hc=>?_)<;>try simp only[hcL]at hc)|(refine ZbL _ rfl rfl (λ hc=>?_) (λ hc=>?_)<;>(try simp only[hcL]at hc)<;>try omega)|simp(disch:=omega) only[go_sem,simprocAttr,hx,hz]|apply And.intro|omega|decide+kernel
     all_goals first|exact Zai (by rw[uU (ZgR hx hz c)])|exact absurd (Prod.ext hc.1 (Prod.ext hc.2.1 (Prod.ext hc.2.2.1 hc.2.2.2))) c
   ·refine kw1 kO kc0 kc0 ?_;refine Zai ?_;rw[uE hge,uE (by omega)]at hinv;rw[yB hinv]
 ·have hab':¬(a.length:Int)=b.length:=by omega
  refine kw1 kO (kc1 @hab') kc0 ?_;exact Zai (by rw[uU (λ h=>hab (by rw[h]))])
theorem ZrM :Zaa Tryz.prog 28 [] (.bool true):=by
 have h1:=Zxc;have h2:=Zxg;have h3:=ZyY;have h4:=ZlM [0,1,1] [0,1,1];rw[yB rfl]at h4;have h5:=ZB7 [(15000,0,35000,10000),(0,30000,20000,40000),(30000,30000,50000,40000)] [(15000,0,35000,10000),(0,30000,20000,40000),(30000,30000,50000,40000)];rw[yB rfl]at h5;refine kE Tryz.func28 ?_;intro hat B X w0;refine kw1 kO kc0 (kc5 h1 h2 h3 h4 h5) ?_;exact Zai rfl
end Go.Proofs.YtjjbhjnpeenbkaaGreatDoor.Gr
namespace Go.Proofs.YtjjbhjnpeenbkaaGreatDoor.Gr
open Go Go.PS Go.Proofs Go.Proofs.YtjjbhjnpeenbkaaGreatDoor
open Go.Cy (NA InN Zbn Za7)
set_option maxRecDepth 100000
attribute [local irreducible] Zad wpG Zaa Zah
theorem ZA3 (g:Gph)(hl:g.es.length<=1000000):Zaa Tryz.prog 43 [Zbf g] (gD (Zht g)):=by
 refine kE Tryz.func43 ?_;intro hat B X w0;refine kw1 kO kc0 kc0 ?_;refine Zaq _ (Zb9 3 1 901 2 rfl rfl rfl) ?_;refine Zae (λ(k:Nat)=>k<=g.es.length) (λ k=>[(1, .ptr 1 0 0 0),(2, .ptr 2 0 0 0),(3, .ptr 3 0 0 0),(4, .int k)]) (λ k=>[(1, .cells [.d (ZaL g.nm), .d (.bool g.dir), .d (.sl (g.ns.map ndD)), .d (.sl (g.es.map edD)), .d (.sl (g.cs.map clD))]),(2, .cells [.int 0, .nilS]),(3, .cells [.int g.ns.length, .ref 901 2 0 (Zdd g k).length (Zdd g k).length]),(901, .row 2 ((Zdd g k).map ZaX))]) (λ k=>g.es.length-k) 0 ?_ ?_ ?_
 ·exact uG _
 ·exact kN kc0 []
 ·intro k hk;have hln:=Zuc g hk;rcases uC k g.es.length with hlt|hge
  ·obtain⟨e,he⟩:=Zac hlt;have hs:=Zud he;have htk:((Zdd g k).map ZaX).take k=(Zdd g k).map ZaX:=uE (by simp[hln]);refine kw1 kO (kc3 he htk hln) kc0 ?_;refine⟨k+1,?_,kN (kc7 hs @uH.{0} @yL.{0} @uR.{0,0} @uS.{0,0} @yE.{0,0} hln) [(901,32)],?_⟩
   ·exact hlt
   ·omega
  ·obtain rfl:k=g.es.length:=by omega
   refine kw1 kO kc0 kc0 ?_;refine⟨_,_,_,_,rfl,?_⟩;simp(disch:=omega) only[go_sem,simprocAttr];rw[Zub,Zan];rfl
theorem ZA8 {g:Gph}(hs:Zbp g):∃s:D,Zaa Tryz.prog 42 [gD (Zht g)] (.tup [s,gD ((g.ns.length:Int),Cyc.castA (ZaV g))]):=by
 have h:=Cyc.rBreak8 g.ns.length (naF g) (ZtL hs) (Zlq hs.ok) (by rw[naF,uD];exact(ZeH hs.ok).1) hs.n8;rw[ZtK hs.ok];exact⟨_,h⟩
theorem Zn6 {g:Gph}(hs:Zbp g):Zaa Tryz.prog 23 [Zbf g] (.tup [gD ((g.ns.length:Int),ZaO (ZaV g) (ZaV g).length),Zab (ZaI (ZaV g) (ZaV g).length)]):=by
 obtain⟨h256,_,_⟩:=ZeH hs.ok;have h1:=ZA3 g (by omega);obtain⟨s,h2⟩:=ZA8 hs;have hbl:=Zff g;generalize ZaV g=l at*;have hcl:(Cyc.castA l).length=l.length:=Cyc.castA_len l;refine kE Tryz.func23 ?_;intro hat B X w0;refine kw1 kO (kc1 hcl) (kc2 h1 h2) ?_;refine Zaq _ (Zb9 6 1 901 2 rfl rfl rfl) ?_;refine Zaq _ (Zc3 7 902 1 rfl rfl) ?_;refine Zae (λ(k:Nat)=>k<=l.length) (λ k=>[(2, .ptr 2 0 0 0),(5, .ptr 5 0 0 0),(6, .ptr 6 0 0 0),(7, .ref 902 1 0 (ZaI l k).length (ZaI l k).length),(8, .int k)]) (λ k=>[(2, .cells [.int 0, .nilS]),(5, .cells [.int g.ns.length, .d (Zal (Cyc.castA l))]),(6, .cells [.int g.ns.length, .ref 901 2 0 (ZaO l k).length (ZaO l k).length]),(901, .row 2 ((ZaO l k).map ZaX)),(902, .row 1 ((ZaI l k).map D.int))]) (λ k=>l.length-k) 0 ?_ ?_ ?_
 ·exact uG _
 ·exact kN (kc7 @ZaO.eq_1 @ZaI.eq_1 @ksF.eq_1 @jT @kH.{0} @yE.{0,0} @uW.{0}) []
 ·intro k hk;have hlk:=Zf1 l k;have hl1:(ZaO l k).length<=256:=by rw[ZaO,uD];omega
  have hl2:(ZaI l k).length<=256:=by rw[ZaI,uD];omega
  rcases uC k l.length with hlt|hge
  ·obtain⟨a,ha⟩:=Zac hlt;have hp:(Cyc.castA l)[k]? =some ((a.1:Int),(a.2:Int)):=Cyc.castA_get ha;by_cases c:a.1=a.2
   ·have c':(a.1:Int)=a.2:=by omega
    have hn:Zdz l k=false:=by rw[Zdz,ha];simp[c]
    have e1:ZaO l (k+1)=ZaO l k:=by rw[ZaO,ZaO,Zg3,hn];simp
    have e2:ZaI l (k+1)=ZaI l k:=by rw[ZaI,ZaI,Zg3,hn];simp
    refine kw1 kO (kc3 hp hcl @c') kc0 ?_;refine⟨k+1,?_,kN (kc2 e1 e2) [],?_⟩
    ·exact hlt
    ·omega
   ·have c':¬(a.1:Int)=a.2:=by omega
    have hn:Zdz l k=true:=by rw[Zdz,ha];simp[c]
    have e1:ZaO l (k+1)=ZaO l k++[((a.1:Int),(a.2:Int))]:=by rw[ZaO,ZaO,Zg3,hn];simp[ZhE,ha]
    have e2:ZaI l (k+1)=ZaI l k++[(k:Int)]:=by rw[ZaI,ZaI,Zg3,hn];simp
    refine kw1 kO (kc4 hp hcl @c' @Zan) kc0 ?_;refine⟨k+1,?_,kN (kc7 e1 e2 @uH.{0} @yL.{0} @uR.{0,0} @uS.{0,0} @yE.{0,0}) [(901,46),(902,51)],?_⟩
    ·exact hlt
    ·omega
  ·obtain rfl:k=l.length:=by omega
   refine kw1 kO kc0 kc0 ?_;refine⟨_,rfl,⟨_,_,_,_,rfl,?_⟩,Zch (o:=902) rfl rfl (by simp) (by rw[uE (by simp)]),trivial⟩;simp(disch:=omega) only[go_sem,simprocAttr];rw[Zan]
theorem Zkc {g:Gph}(hs:Zbp g):Zaa Tryz.prog 33 [Zbf g] (Sx.nD (ZaC g)):=by
 obtain⟨h256,_,_⟩:=ZeH hs.ok;have h1:=Zn6 hs;have hbl:=Zff g;rw[ZaC];generalize ZaV g=l at*;have hlk:=Zf1 l l.length;have hpl:(ZaO l l.length).length=(ksF l l.length).length:=by rw[ZaO,uD]
 have hel:(ZaI l l.length).length=(ksF l l.length).length:=by rw[ZaI,uD]
 refine kE Tryz.func33 ?_;intro hat B X w0;refine kw1 kO kc0 (kc1 h1) ?_;refine Zaq _ (Zb9 5 1 901 4 rfl rfl rfl) ?_;refine Zae (λ(k:Nat)=>k<=(ksF l l.length).length) (λ k=>[(1, .ptr 1 0 0 0),(2, .ptr 2 0 0 0),(3, .ptr 3 0 0 0),(4, .d (Zab (ZaI l l.length))),(5, .ptr 5 0 0 0),(6, .int k)]) (λ k=>[(1, .cells [.d (ZaL g.nm), .d (.bool g.dir), .d (.sl (g.ns.map ndD)), .d (.sl (g.es.map edD)), .d (.sl (g.cs.map clD))]),(2, .cells [.int 0, .nilS]),(3, .cells [.int g.ns.length, .d (Zal (ZaO l l.length))]),(5, .cells [.int g.ns.length, .ref 901 4 0 (Za4 g l k).length (Za4 g l k).length]),(901, .row 4 ((Za4 g l k).map Sx.bdD))]) (λ k=>(ksF l l.length).length-k) 0 ?_ ?_ ?_
 ·exact uG _
 ·exact kN (kc4 @Za4.eq_1 @yU.{0} @yE.{0,0} @uW.{0}) []
 ·intro k hk;have hl1:=Zgi (g:=g) hk;rcases uC k (ksF l l.length).length with hlt|hge
  ·obtain⟨i,hi⟩:=Zac hlt;obtain⟨q1,q2⟩:=Zgw (uA hi);obtain⟨a,ha⟩:=Zac q1;obtain⟨e,he⟩:=Zac (l:=g.es) (k:=i) (by omega);have p1:(ZaO l l.length)[k]? =some ((a.1:Int),(a.2:Int)):=by rw[ZaO,uJ,hi];simp[ZhE,ha]
   have p2:(ZaI l l.length)[k]? =some (i:Int):=by rw[ZaI,uJ,hi];rfl
   have e1:Za4 g l (k+1)=Za4 g l k++[((a.1:Int),(a.2:Int),e.ln,e.wt)]:=by
    rw[Za4,Za4,ZaA hi,uR];simp[Zit,ha,he]
   have htk:((Za4 g l k).map Sx.bdD).take k=(Za4 g l k).map Sx.bdD:=uE (by simp[hl1]);refine kw1 kO (kc7 p1 p2 he hpl hel hl1 htk) kc0 ?_;refine⟨k+1,?_,kN (kc7 e1 @uH.{0} @yL.{0} @uR.{0,0} @uS.{0,0} @yE.{0,0} hl1) [(901,50)],?_⟩
   ·exact hlt
   ·omega
  ·obtain rfl:k=(ksF l l.length).length:=by omega
   refine kw1 kO (kc1 hel) kc0 ?_;refine⟨_,_,_,_,rfl,?_⟩;simp(disch:=omega) only[go_sem,simprocAttr];rw[Zan]
theorem ZEk {ST:Nat->List Sx.Stp}{S:Nat->Prop}{M:Int}(hs:∀v s,s∈ST v->s.2.1<=M){k v:Nat}{d:Int}(h:Sx.Wk ST S k v d):d<=M*k:=by
 induction h with
 |start v h=>simp
 |step k v d s _ hm ih=>
  have:=hs v s hm;rw[qQ,zH];omega
theorem Ziu {n:Nat}{l:List Sx.Bd}{r f:List Int}(hb:Sx.BdsOk n l)(h:Sx.Best n l r f)(h4:∀b,b∈l->1<=b.2.2.1/\b.2.2.1<=4)(v:Nat)(hv:v<n):0<=Sx.at0 r v/\Sx.at0 r v<=4*(n:Int):=by
 refine⟨(Sx.best_bd hb h v).1,?_⟩;obtain⟨k,hk,hw⟩:=Sx.opt_short (Sx.steps_good (f:=f) hb) (λ u hu=>Sx.mem_allI.1 hu) (h.opt v hv);have:=ZEk (M:=4) (λ u s hs=>by
  obtain⟨j,b,hj,⟨_,e⟩|⟨_,_,e⟩⟩:=Sx.mem_steps.1 hs
  ·have:=h4 b (uA hj);rw[e];dsimp only;omega
  ·have:=h4 b (uA hj);rw[e];dsimp only;omega) hw
 omega
theorem ZkR {g:Gph}(hs:Zbp g)(h4:∀e,e∈g.es->e.ln<=4):∀b,b∈(ZaC g).2->1<=b.2.2.1/\b.2.2.1<=4:=by
 intro b hb;have hbl:=Zff g;rw[ZaC]at hb;dsimp only at hb;rw[Za4,uE (uI _)]at hb;obtain⟨i,hi,rfl⟩:=uP.1 hb;obtain⟨q1,_⟩:=Zgw hi;obtain⟨a,ha⟩:=Zac q1;obtain⟨e,he⟩:=Zac (l:=g.es) (k:=i) (by omega);have:=Zk4 hs.ok he;have:=h4 e (uA he);rw[Zit,ha,he];dsimp only;omega
theorem Zyp (g:Gph)(other:List Int):Zaa Tryz.prog 9 [Zbf g,Zab other] (.bool true):=by
 have h9:=ZrM;have h1:=ZqG g 8 12 (by decide) (by decide);rcases c1:ZfV g 8 12 with _|_<;>rw[c1]at h1
 ·refine kE Tryz.func9 ?_;intro hat B X w0;refine kw1 kO kc0 (kc2 h1 h9) ?_;exact Zai rfl
 ·obtain⟨f1,f2,f3,f4⟩:=Zm3 c1;by_cases c4:12<other.length
  ·refine kE Tryz.func9 ?_;intro hat B X w0;refine kw1 kO (kc1 c4) (kc2 h1 h9) ?_
   all_goals first|exact Zai rfl|(exfalso;omega)
  ·have c4':¬(12:Int)<other.length:=by omega
   by_cases hv:ZcW g=0
   ·have hs:Zbp g:=⟨f3,hv,f1⟩;rcases Zzv hs with h|⟨r,f,hS,hB⟩
    ·have h2:=Zpc hs h (by decide);refine kE Tryz.func9 ?_;intro hat B X w0;refine kw1 kO (kc1 @c4') (kc3 h1 h2 h9) ?_;exact Zai rfl
    ·have h2:=Zl8 hs hS;have h3:=Zkc hs;have hg:=Zh1 hs;have a1:=Sx.rFeasible_spec (ZaC g) r;have a2:=Sx.rFeasible_spec (ZaC g) other;have a3:=Sx.rCost_spec (ZaC g) r;have a4:=Sx.rCost_spec (ZaC g) other;have hsh:=ZkR hs f4;have hfa:Sx.feasF (ZaC g) r=true:=Sx.best_feas (n:=g.ns.length) (l:=(ZaC g).2) hg hB;have hlow:=Ziu (Sx.bdsOk_of (n:=g.ns.length) (l:=(ZaC g).2) hg).1 hB hsh;have hle:Sx.feasF (ZaC g) other=true->Sx.costF (ZaC g) r<=Sx.costF (ZaC g) other:=λ hf=>by
      obtain⟨_,_,hp⟩:=Sx.feas_pot (n:=g.ns.length) (l:=(ZaC g).2) hf;have b1:=(Sx.best_le (Sx.bdsOk_of (n:=g.ns.length) (l:=(ZaC g).2) hg).1 hB hp).1;have hr1:Sx.rkOk (ZaC g) other=true:=by simp only[Sx.feasF,uM]at hf;exact hf.1
      have hr2:Sx.rkOk (ZaC g) r=true:=by
       have:=hfa;simp only[Sx.feasF,uM]at this;exact this.1
      rw[<-Sx.cost_is (n:=g.ns.length) (l:=(ZaC g).2) hr1,<-Sx.cost_is (n:=g.ns.length) (l:=(ZaC g).2) hr2]at b1;exact b1
     have hrl:r.length=g.ns.length:=hB.rl;rw[hfa]at a1;generalize ZeM g f=af at*;generalize ZaC g=N at*;generalize Sx.costF N r=k1 at*;generalize Sx.costF N other=k2 at*;obtain⟨N1,N2⟩:=N;rcases hf:Sx.feasF (N1,N2) other with _|_<;>rw[hf]at a2
     ·refine kE Tryz.func9 ?_;intro hat B X w0;refine kw1 kO (kc1 @c4') (kc5 h1 h2 h3 a1 a2) ?_;refine Zae (λ(i:Nat)=>i<=r.length) (λ i=>[(5, .d (Zab r)),(9, .int i)]) (λ i=>[]) (λ i=>r.length-i) 0 ?_ ?_ ?_
      ·exact uG _
      ·exact kN kc0 []
      ·intro i hi;rcases uC i r.length with hlt|hge
       ·obtain⟨l1,l2⟩:=hlow i (by omega);have hri:r[i]? =some (Sx.at0 r i):=Sx.at0_at hlt;generalize Sx.at0 r i=x at*;have d1:¬x<0:=by omega
        have d2:¬4*(r.length:Int)<x:=by omega
        refine kw1 kO (kc3 hri d1 d2) kc0 ?_;refine⟨i+1,?_,kN kc0 [],?_⟩
        ·exact hlt
        ·omega
       ·refine kw1 kO kc0 (kc1 h9) ?_;exact Zai rfl
     ·have hk:=hle hf;have hk':¬k2<k1:=by omega
      refine kE Tryz.func9 ?_;intro hat B X w0;refine kw1 kO (kc2 @c4' @hk') (kc7 h1 h2 h3 a1 a2 a3 a4) ?_;refine Zae (λ(i:Nat)=>i<=r.length) (λ i=>[(5, .d (Zab r)),(9, .int i)]) (λ i=>[]) (λ i=>r.length-i) 0 ?_ ?_ ?_
      ·exact uG _
      ·exact kN kc0 []
      ·intro i hi;rcases uC i r.length with hlt|hge
       ·obtain⟨l1,l2⟩:=hlow i (by omega);have hri:r[i]? =some (Sx.at0 r i):=Sx.at0_at hlt;generalize Sx.at0 r i=x at*;have d1:¬x<0:=by omega
        have d2:¬4*(r.length:Int)<x:=by omega
        refine kw1 kO (kc3 hri d1 d2) kc0 ?_;refine⟨i+1,?_,kN kc0 [],?_⟩
        ·exact hlt
        ·omega
       ·refine kw1 kO kc0 (kc1 h9) ?_;exact Zai rfl
   ·have h2:=Zpb f3 hv;refine kE Tryz.func9 ?_;intro hat B X w0;refine kw1 kO (kc2 @c4' hv) (kc3 h1 h2 h9) ?_;exact Zai rfl
theorem Zva {m:Nat}{ks:List Nat}{f:List Int}(hn:ks.Nodup)(hm:∀i,i∈ks->i<m):∀k,k<=ks.length->
  (∀(i x:Nat) (y:Int),i<k->ks[i]? =some x->f[i]? =some y->(Zcj m ks f k)[x]? =some y)/\∀x,x<m->x∉ks.take k->(Zcj m ks f k)[x]? =some 0:=by
 intro k
 induction k with
 |zero=>exact λ _=>⟨λ i x y h=>by omega,λ x hx _=>by rw[Zcj,qT,if_pos hx]⟩
 |succ k ih=>
  intro hk;obtain⟨i1,i2⟩:=ih (by omega);obtain⟨z,hz⟩:=Zac (show k<ks.length by omega);have hzm:=hm z (uA hz);have hl:=ZkI m ks f k;rw[Zcj,hz];refine⟨λ i x y hi hx hy=>?_,λ x hx hnx=>?_⟩
  ·by_cases e:i=k
   ·subst e;rw[hz]at hx;cases hx;rw[yK,gU (by omega),hy];rfl
   ·have hne:z≠x:=λ h=>by
     subst h;obtain⟨a1,a2⟩:=uB.1 hx;obtain⟨b1,b2⟩:=uB.1 hz;exact gM.1 hn i k a1 b1 (by omega) (by rw[a2,b2])
    rw[yK,jH hne];exact i1 i x y (by omega) hx hy
  ·rw[ZaA hz]at hnx;have hne:z≠x:=λ h=>hnx (yO.2 (.inr (by rw[h];simp)))
   rw[yK,jH hne];exact i2 x hx (λ h=>hnx (yO.2 (.inl h)))
theorem Zym (l:List NA)(k:Nat):(ksF l k).Nodup:=Ax _ kL
theorem ZwK {g:Gph}(hs:Zbp g)(h4:∀e,e∈g.es->e.ln<=4){r f:List Int}(hB:Sx.Best g.ns.length (ZaC g).2 r f):Sx.costB (ZaC g).2 r<=1099511627776:=by
 have hg:=Zh1 hs;obtain⟨hb,hn,hl⟩:=Sx.bdsOk_of (n:=g.ns.length) (l:=(ZaC g).2) hg;have hlow:=Ziu hb hB (ZkR hs h4);have hpot:=Sx.best_pot hb hB;have h8:=hs.n8;have:=(Sx.sumI_le (f:=Sx.costAt r (ZaC g).2) (c:=256000) (m:=(ZaC g).2.length) (λ k hk=>by
  obtain⟨b,hbk⟩:=Zac hk;obtain⟨c1,c2,c3,c4,c5,c6,c7,c8,c9⟩:=hb k b hbk;have l1:=hlow b.1.toNat (by omega);have l2:=hlow b.2.1.toNat (by omega);rw[show((b.1.toNat:Nat):Int)=b.1 by omega]at l1;rw[show((b.2.1.toNat:Nat):Int)=b.2.1 by omega]at l2;have hp:=(hpot k b hbk).1;have hs1:=ZkR hs h4 b (uA hbk);dsimp only at hp;rw[show((b.1.toNat:Nat):Int)=b.1 by omega,show((b.2.1.toNat:Nat):Int)=b.2.1 by omega]at hp;rw[Sx.costAt_some hbk];have e1:0<=b.2.2.2*(Sx.at0 r b.2.1-Sx.at0 r b.1):=Dg c8 (by omega);have e2:b.2.2.2*(Sx.at0 r b.2.1-Sx.at0 r b.1)<=8000*32:=Int.mul_le_mul c9 (by omega) (by omega) (by omega);omega) (ZaC g).2.length (uI _)).2
 have h3:(256000:Int)*((ZaC g).2.length:Int)<=256000*4096:=jD (by omega) (by omega);rw[Sx.costB];omega
theorem ZAZ {g:Gph}(hm:Mod g)(h:ZcW g≠0):Zaa Tryz.prog 30 [Zbf g] (.tup [.sl [], .sl [], .int (ZcW g)]):=by
 have h1:=Zof g hm;refine kE Tryz.func30 ?_;intro hat B X w0;refine kw1 kO (kc1 h) (kc1 h1) ?_;exact⟨_,rfl,rfl,rfl,Zaf rfl,trivial⟩
theorem ZA0 {g:Gph}(hs:Zbp g)(hS:¬∃p,Sx.PotB (ZaC g).2 (Sx.zeros (ZaC g).2) p):Zaa Tryz.prog 30 [Zbf g] (.tup [.sl [], .sl [], .int 9]):=by
 have h1:=Zof g hs.md;rw[hs.ok]at h1;have h2:=Zkc hs;have h3:Zaa Tryz.prog 80 [Sx.nD (ZaC g)] (.tup [.sl [], .sl [], .int 9]):=Sx.rSolve_no (n:=g.ns.length) (l:=(ZaC g).2) (Zh1 hs) hS;refine kE Tryz.func30 ?_;intro hat B X w0;refine kw1 kO kc0 (kc3 h1 h2 h3) ?_;exact⟨_,rfl,rfl,rfl,Zaf rfl,trivial⟩
theorem ZA1 {g:Gph}(hs:Zbp g)(h4:∀e,e∈g.es->e.ln<=4){r f:List Int}(hB:Sx.Best g.ns.length (ZaC g).2 r f):∃f',Zaa Tryz.prog 30 [Zbf g] (.tup [Zab r,Zab (ZeM g f'), .int 0]):=by
 have h1:=Zof g hs.md;rw[hs.ok]at h1;have h2:=Zkc hs;have hg:=Zh1 hs;obtain⟨hb,hn,hl⟩:=Sx.bdsOk_of (n:=g.ns.length) (l:=(ZaC g).2) hg;have hx:=Sx.potB_zeros (Sx.best_pot hb hB);obtain⟨r',f',hB',h3⟩:=Sx.rSolve_spec (z:=r) hg hx (λ b hbm=>by
  obtain⟨k,hk⟩:=gN.1 hbm;have:=(Sx.potB_at hb hx hk).1;have:=(ZkR hs h4 b hbm).1;omega) (ZwK hs h4 hB)
 have hrr:r'=r:=Sx.best_uniq hb hB' hB;subst hrr;refine⟨f',?_⟩;have h5:=Zn6 hs;have hf':f'.length=(ksF (ZaV g) (ZaV g).length).length:=hB'.fl.trans (Zgi (uI _));obtain⟨h256,_,_⟩:=ZeH hs.ok;have hbl:=Zff g;have h3':Zaa Tryz.prog 80 [Sx.nD (ZaC g)] (.tup [Zab r',Zab f', .int 0]):=h3;rw[ZeM];clear hB hB' hx h3 hb;generalize ZaC g=N at*;generalize ZaV g=l at*;have hlk:=Zf1 l l.length;have hel:(ZaI l l.length).length=(ksF l l.length).length:=by rw[ZaI,uD]
 refine kE Tryz.func30 ?_;intro hat B X w0;refine kw1 kO (kc1 hel) (kc4 h1 h2 h3' h5) ?_;refine Zae (λ(k:Nat)=>k<=(ksF l l.length).length) (λ k=>[(6, .d (Zab r')),(7, .d (Zab f')),(10, .d (Zab (ZaI l l.length))),(11, .ref 36 1 0 g.es.length g.es.length),(12, .int k)]) (λ k=>[(36, .row 1 ((Zcj g.es.length (ksF l l.length) f' k).map D.int))]) (λ k=>(ksF l l.length).length-k) 0 ?_ ?_ ?_
 ·exact uG _
 ·exact kN (kc2 @Zcj.eq_1 @jJ.{0,0}) []
 ·intro k hk;have hal:=ZkI g.es.length (ksF l l.length) f' k;rcases uC k (ksF l l.length).length with hlt|hge
  ·obtain⟨i,hi⟩:=Zac hlt;obtain⟨x,hx⟩:=Zac (l:=f') (k:=k) (by omega);obtain⟨q1,q2⟩:=Zgw (uA hi);have p2:(ZaI l l.length)[k]? =some (i:Int):=by rw[ZaI,uJ,hi];rfl
   obtain⟨y,hy⟩:=Zac (l:=Zcj g.es.length (ksF l l.length) f' k) (k:=i) (by omega);have e1:Zcj g.es.length (ksF l l.length) f' (k+1)=(Zcj g.es.length (ksF l l.length) f' k).set i x:=by rw[Zcj,hi,hx];rfl
   refine kw1 kO (kc5 p2 hel hx hy hal) kc0 ?_;refine⟨k+1,?_,kN (kc2 e1 @yR.{0,0}) [],?_⟩
   ·exact hlt
   ·omega
  ·obtain rfl:k=(ksF l l.length).length:=by omega
   refine kw1 kO (kc1 hel) kc0 ?_;exact⟨_,rfl,rfl,Zch (o:=36) rfl rfl (by simp[hal]) (by rw[uE (by simp[hal])]),Zaf rfl,trivial⟩
theorem Zy4 {g:Gph}(h:ZcW g=0){i:Nat}{e:Ed}(he:g.es[i]? =some e)(hl:e.fr=e.to):Zdz (ZaV g) i=false:=by
 have hn:(naF g)[i]? =some (e.fr.toNat,e.to.toNat):=by rw[naF,uJ,he];rfl
 have hf:=Go.Cy.flipN_get (set:=Zbn g.ns.length (naF g)) hn;rw[Zdz,show(ZaV g)[i]? =_ from hf];dsimp only;split<;>simp[hl]
theorem Zyq (g:Gph):Zaa Tryz.prog 6 [Zbf g] (.bool true):=by
 have h9:=ZrM;have h1:=ZqG g 8 12 (by decide) (by decide);rcases c1:ZfV g 8 12 with _|_<;>rw[c1]at h1
 ·refine kE Tryz.func6 ?_;intro hat B X w0;refine kw1 kO kc0 (kc2 h1 h9) ?_;exact Zai rfl
 ·obtain⟨f1,f2,f3,f4⟩:=Zm3 c1;have h0:=ZlM [] [];rw[yB rfl]at h0;by_cases hv:ZcW g=0
  ·have hs:Zbp g:=⟨f3,hv,f1⟩;have hg:=Zh1 hs;by_cases hp:∃p,Sx.PotB (ZaC g).2 (Sx.zeros (ZaC g).2) p
   ·obtain⟨r,f,hS,hB⟩:=Sx.solve_best (n:=g.ns.length) (l:=(ZaC g).2) hg hp;have h2:=Zl8 hs hS;obtain⟨f',h3⟩:=ZA1 hs f4 hB;have h4:=ZlM r r;rw[yB rfl]at h4;have h5:=Zn6 hs;have h6:=Zkc hs;have h7:=Sx.rCheck_spec (ZaC g) r f;rw[show Sx.checkF (ZaC g) r f=true from Sx.best_check (n:=g.ns.length) (l:=(ZaC g).2) hg hB]at h7;have hf':f.length=(ksF (ZaV g) (ZaV g).length).length:=hB.fl.trans (Zgi (uI _));have hlb:=λ i e he hl=>Zy4 hv (i:=i) (e:=e) he hl
    obtain⟨h256,_,_⟩:=ZeH hs.ok;have hbl:=Zff g;have hal:(ZeM g f).length=g.es.length:=by rw[ZeM,ZkI]
    have hat1:=Zva (m:=g.es.length) (ks:=ksF (ZaV g) (ZaV g).length) (f:=f) (Zym _ _) (λ i hi=>by have:=(Zgw hi).1;omega) _ (uI _);rw[yH]at hat1;obtain⟨t1,t2⟩:=hat1;rw[show Zcj g.es.length (ksF (ZaV g) (ZaV g).length) f (ksF (ZaV g) (ZaV g).length).length=ZeM g f from rfl]at t1 t2;generalize ZeM g f'=a' at*;generalize ZeM g f=A at*;generalize ZaC g=N at*;generalize ZaV g=l at*;obtain⟨N1,N2⟩:=N;have hlk:=Zf1 l l.length;have hel:(ZaI l l.length).length=(ksF l l.length).length:=by rw[ZaI,uD]
    have htl:∀k,k<=f.length->(f.take k).length=k:=λ k hk=>by rw[yF];omega
    refine kE Tryz.func6 ?_;intro hat B X w0;refine kw1 kO (kc1 hal) (kc5 h1 h2 h3 h4 h5) ?_;refine Zaq _ (Zc3 11 901 1 rfl rfl) ?_;refine Zae (λ(k:Nat)=>k<=(ksF l l.length).length) (λ k=>[(1, .ptr 1 0 0 0),(3, .d (Zab r)),(4, .d (Zab A)),(10, .d (Zab (ZaI l l.length))),(11, .ref 901 1 0 (f.take k).length (f.take k).length),(12, .int k)]) (λ k=>[(1, .cells [.d (ZaL g.nm), .d (.bool g.dir), .d (.sl (g.ns.map ndD)), .d (.sl (g.es.map edD)), .d (.sl (g.cs.map clD))]),(901, .row 1 ((f.take k).map D.int))]) (λ k=>(ksF l l.length).length-k) 0 ?_ ?_ ?_
    ·exact uG _
    ·exact kN (kc3 @yU.{0} @yE.{0,0} @uW.{0}) []
    ·intro k hk;have hfl:=htl k (by omega);rcases uC k (ksF l l.length).length with hlt|hge
     ·obtain⟨i,hi⟩:=Zac hlt;obtain⟨x,hx⟩:=Zac (l:=f) (k:=k) (by omega);have p2:(ZaI l l.length)[k]? =some (i:Int):=by rw[ZaI,uJ,hi];rfl
      have p3:=t1 k i x hlt hi hx;have hil:=(uB.1 p3).1;have e1:f.take (k+1)=f.take k++[x]:=ZaA hx;have htk:((f.take k).map D.int).take k=(f.take k).map D.int:=uE (by rw[uD,hfl];exact uI _);refine kw kO (kc6 p2 hel p3 hfl htk hil) kc0 ?_
      repeat' first|exact True.intro|refine Bn.mk ?_ ?_|intro hc
      refine⟨k+1,?_,eL [(901,73)] _ _ (by refine⟨?_,?_⟩<;>(repeat' first|exact fmn|refine fmc ⟨(by first|rfl|(simp(disch:=omega) only[go_sem,simprocAttr,inL,e1,uH,yL,uR,uS,yE,hfl];first|done|omega|(congr 1;done))),?_⟩);done),?_⟩
      ·exact hlt
      ·omega
     ·obtain rfl:k=(ksF l l.length).length:=by omega
      rw[show f.take (ksF l l.length).length=f from uE (by omega)];refine kw1 kO (kc1 hel) kc0 ?_;refine Zae (λ(i:Nat)=>i<=g.es.length) (λ i=>[(1, .ptr 1 0 0 0),(3, .d (Zab r)),(4, .d (Zab A)),(11, .ref 901 1 0 f.length f.length),(13, .int i)]) (λ i=>[(1, .cells [.d (ZaL g.nm), .d (.bool g.dir), .d (.sl (g.ns.map ndD)), .d (.sl (g.es.map edD)), .d (.sl (g.cs.map clD))]),(901, .row 1 (f.map D.int))]) (λ i=>g.es.length-i) 0 ?_ ?_ ?_
      ·exact uG _
      ·exact kN kc0 []
      ·intro i hi;rcases uC i g.es.length with hil|hig
       ·obtain⟨e,he⟩:=Zac hil;by_cases c:e.fr=e.to
        ·have hz:=t2 i hil (λ hm=>by
          have:=(Zgw hm).2;rw[hlb i e he c]at this;cases this)
         refine kw1 kO (kc4 he c hz hal) kc0 ?_;refine⟨i+1,?_,kN kc0 [],?_⟩
         ·exact hil
         ·omega
        ·refine kw1 kO (kc3 he c hal) kc0 ?_;refine⟨i+1,?_,kN kc0 [],?_⟩
         ·exact hil
         ·omega
       ·refine kw1 kO (kc2 hal @Zan) (kc3 h6 h7 h9) ?_;exact Zai rfl
   ·have h2:=Zpc hs (Sx.solve_none (n:=g.ns.length) (l:=(ZaC g).2) hg hp) (by decide);have h3:=ZA0 hs hp;refine kE Tryz.func6 ?_;intro hat B X w0;refine kw1 kO kc0 (kc5 h1 h2 h3 h0 h9) ?_;exact Zai rfl
  ·have h2:=Zpb f3 hv;have h3:=ZAZ f3 hv;refine kE Tryz.func6 ?_;intro hat B X w0;refine kw1 kO (kc1 hv) (kc5 h1 h2 h3 h0 h9) ?_;exact Zai rfl
end Go.Proofs.YtjjbhjnpeenbkaaGreatDoor.Gr
