/- Place by the program. -/
import Derived.Test.YtjjbhjnpeenbkaaGreatDoorLyA
import Derived.Test.YtjjbhjnpeenbkaaGreatDoorAlA
import Derived.Test.YtjjbhjnpeenbkaaGreatDoorCyO
import Derived.Test.YtjjbhjnpeenbkaaGreatDoorGrG
import Derived.Test.YtjjbhjnpeenbkaaGreatDoorSxVd
import Derived.Test.YtjjbhjnpeenbkaaGreatDoorSxA
set_option linter.unusedSimpArgs false
set_option linter.unusedVariables false
set_option maxHeartbeats 16000000
namespace Go.Proofs.YtjjbhjnpeenbkaaGreatDoor.Gr
open Go Go.PS Go.Proofs Go.Proofs.YtjjbhjnpeenbkaaGreatDoor Go.Proofs.YtjjbhjnpeenbkaaGreatDoor.Al
set_option maxRecDepth 100000
attribute [local irreducible] ao wpG ah ax
theorem Jp {g:Gph}{o:Opt}{Z:Lv}{n e:Int}(h:ah Tryz.prog 13 [a7 g,cv o] (.tup [lvD Z, .int n, .int e]))(V:e≠0):
  ah Tryz.prog 21 [a7 g,cv o] (.tup [.sl [],lvD lv0, .int e]):=by
 obtain⟨S,R,U,T⟩:=Z;refine kE Tryz.func21 ?_;intro Y B X Q;refine ac kO (ae V) (ae h) ?_;refine⟨_,rfl,rfl,⟨_,_,_,_,rfl,?_⟩,ap rfl,trivial⟩;simp(disch:=omega) only[go_sem,simprocAttr];rfl
theorem Ml (g:Gph){r:List Int}{j:Nat}{v:Int}(h:r[j]? =some v)(X:v<g.ns.length):∀k,j<k->jd g v<=hN g r k:=by
 intro k
 induction k with
 |zero=>intro h;omega
 |succ k V=>
  intro Y;rw[hN];rcases uD j k with Z|Z
  ·have:=V Z;split
   ·split
    ·split<;>omega
    ·exact this
   ·exact this
  ·obtain rfl:j=k:=xA;rw[h];dsimp only;rw[if_pos X];split<;>omega
theorem EA {g:Gph}{ls:List (List Int)}{k:Nat}{r:List Int}(Z:ls[k]? =some r){j:Nat}{v:Int}(h:r[j]? =some v)(Y:v<g.ns.length):jd g v<=hL g ls k:=by
 rw[hL,Z];exact Ml g h Y _ (uB.1 h).1
theorem T2 (g:Gph):∀k,k<=g.ns.length->((cg g).take k).length=k:=λ k h=>by rw[yA,cg,uC];omega
theorem AL {g:Gph}{o:Opt}{ls:List (List Int)}{C:List Arc}{cs:List (List Int)}{y:List Int}{c:Int}(Q:PlOk g y ls)(hs:0<=o.rsep/\o.rsep<=1048576)(J:g.ns.length<=1000)(hyl:g.ns.length<=y.length)
  (h1:ah Tryz.prog 13 [a7 g,cv o] (.tup [lvD (g.ns.length,ls,C,cs), .int c, .int 0]))
  (h2:ah Tryz.prog 17 [lvD (g.ns.length,ls,C,cs),aj (cg g), .int o.nsep] (.tup [aj y, .int 0])):
  ah Tryz.prog 21 [a7 g,cv o] (if(((plO g y ls o.rsep ls.length).1.map (shB (plO g y ls o.rsep ls.length).2.1)).all okB)=true then(.tup [.sl (((plO g y ls o.rsep ls.length).1.map (shB (plO g y ls o.rsep ls.length).2.1)).map bxD),lvD (g.ns.length,ls,C,cs), .int 0])else(.tup [.sl [],lvD lv0, .int 2])):=by
 have h3:=J3 g ls C cs o.rsep Q.low hs Q.hl (λ r q=>⟨(Q.hv r q).1,λ v hv=>((Q.hv r q).2 v hv).1⟩);refine kE Tryz.func21 ?_;intro hat B X w0;refine ac kO aa (ae h1) ?_;refine aC _ (dg 10 901 1 rfl rfl) ?_;refine aq (λ(k:Nat)=>k<=g.ns.length) (λ k=>[(2, .ptr 2 0 0 0),(3, .ptr 3 0 0 0),(5, .ptr 5 0 0 0),(7, .ptr 7 0 0 0),(10, .ref 901 1 0 ((cg g).take k).length ((cg g).take k).length),(37, .d (.sl (g.ns.map ndD))),(38, .int g.ns.length),(39, .int k)]) (λ k=>[(2, .cells [.d (bi g.nm), .d (.bool g.dir), .d (.sl (g.ns.map ndD)), .d (.sl (g.es.map edD)), .d (.sl (g.cs.map clD))]),(3, .cells [.int o.md, .int o.nsep, .int o.rsep, .int o.mg, .int o.rd]),(5, .cells [.int 0, .nilS, .nilS, .nilS]),(7, .cells [.int g.ns.length, .d (am ls), .d (aw C), .d (am cs)]),(901, .row 1 (((cg g).take k).map D.int))]) (λ k=>g.ns.length-k) 0 ?_ ?_ ?_
 ·exact uF _
 ·exact kN (av @yQ.{0} @uY.{0,0} @uU.{0}) []
 ·intro k hk;have hwl:=T2 g k hk;rcases uD k g.ns.length with U|N
  ·obtain⟨n,J⟩:=ak U;have Z:(cg g).take (k+1)=(cg g).take k++[n.w]:=aM (by rw[cg,uJ,J];rfl);have htk:(((cg g).take k).map D.int).take k=((cg g).take k).map D.int:=uE (by rw[uC,hwl];exact uI _);refine ac kO (av J hwl htk) aa ?_;refine⟨k+1,?_,kN (bV Z @uH.{0} @yO.{0} @uO.{0,0} @uS.{0,0} @uY.{0,0} hwl) [(901,47)],?_⟩
   ·exact U
   ·omega
  ·obtain rfl:k=g.ns.length:=xA;have e2:(cg g).take g.ns.length=cg g:=uE (by rw[cg,uC];exact uI _);have ewl:(cg g).length=g.ns.length:=by rw[cg,uC]
   rw[e2];refine aC _ (fo 901 1 ((cg g).map D.int) rfl (fa _ rfl) xC) ?_;have htw:((cg g).map D.int).take g.ns.length=(cg g).map D.int:=uE (by rw[uC,ewl];exact uI _);have hbl:=B7 g ls o.rsep ls.length;have hbD:((ef g ls o.rsep ls.length).map mX).length=ls.length:=by rw[uC,hbl]
   refine ac kO (aQ ewl htw hbl hbD @qD.{0}) (ai h2 h3) ?_;refine aq (λ(k:Nat)=>k<=ls.length) (λ k=>[(2, .ptr 2 0 0 0),(3, .ptr 3 0 0 0),(5, .ptr 5 0 0 0),(7, .ptr 7 0 0 0),(13, .d (aj y)),(14, .ref 63 4 0 g.ns.length g.ns.length),(15, .int (plO g y ls o.rsep k).2.1),(16, .bool (plO g y ls o.rsep k).2.2),(68, .d (.sl ((ef g ls o.rsep ls.length).map mX))),(69, .int ls.length),(70, .int k)]) (λ k=>[(2, .cells [.d (bi g.nm), .d (.bool g.dir), .d (.sl (g.ns.map ndD)), .d (.sl (g.es.map edD)), .d (.sl (g.cs.map clD))]),(3, .cells [.int o.md, .int o.nsep, .int o.rsep, .int o.mg, .int o.rd]),(5, .cells [.int 0, .nilS, .nilS, .nilS]),(7, .cells [.int g.ns.length, .d (am ls), .d (aw C), .d (am cs)]),(63, .row 4 ((plO g y ls o.rsep k).1.map bxD))]) (λ k=>ls.length-k) 0 ?_ ?_ ?_
   ·exact uF _
   ·exact kN (ai @plO.eq_1 @yT.{0,0}) []
   ·intro k hk;have L:=tW g y ls o.rsep k;have hom:=Pj Q o.rsep k;rcases uD k ls.length with U|N
    ·obtain⟨r,q⟩:=ak U;have eO:=Gk (g:=g) (y:=y) (sep:=o.rsep) q;obtain⟨hr1,hr2⟩:=Q.hv r (uA q);have hbk:(ef g ls o.rsep ls.length)[k]? =some (bX g ls o.rsep k,hL g ls k):=by rw[ef,uJ,yZ U];rfl
     have ht:=u1 Q.low ls hs k;have hh:=oA Q.low ls k;have N:=λ j v h1 h2=>EA (g:=g) (ls:=ls) q (j:=j) (v:=v) h1 h2
     generalize bX g ls o.rsep k=T at*;generalize hL g ls k=H at*;refine ac kO (ai hbk q) aa ?_;refine aq (λ(j:Nat)=>j<=r.length) (λ j=>[(2, .ptr 2 0 0 0),(3, .ptr 3 0 0 0),(5, .ptr 5 0 0 0),(7, .ptr 7 0 0 0),(13, .d (aj y)),(14, .ref 63 4 0 g.ns.length g.ns.length),(15, .int (plI g y (T,H) r (plO g y ls o.rsep k) j).2.1),(16, .bool (plI g y (T,H) r (plO g y ls o.rsep k) j).2.2),(18, .ptr 18 0 0 0),(68, .d (.sl ((ef g ls o.rsep ls.length).map mX))),(69, .int ls.length),(70, .int k),(79, .d (aj r)),(80, .int r.length),(81, .int j)]) (λ j=>[(2, .cells [.d (bi g.nm), .d (.bool g.dir), .d (.sl (g.ns.map ndD)), .d (.sl (g.es.map edD)), .d (.sl (g.cs.map clD))]),(3, .cells [.int o.md, .int o.nsep, .int o.rsep, .int o.mg, .int o.rd]),(5, .cells [.int 0, .nilS, .nilS, .nilS]),(7, .cells [.int g.ns.length, .d (am ls), .d (aw C), .d (am cs)]),(18, .cells [.int T, .int H]),(63, .row 4 ((plI g y (T,H) r (plO g y ls o.rsep k) j).1.map bxD))]) (λ j=>r.length-j) 0 ?_ ?_ ?_
     ·exact uF _
     ·exact kN (ae @plI.eq_1) []
     ·intro j hj;have G:=(xS g y (T,H) r (plO g y ls o.rsep k) j).trans L;have him:=Gh Q (T,H) (λ v hv=>(hr2 v hv).1) hom j;rcases uD j r.length with M|hjg
      ·obtain⟨v,V⟩:=ak M;obtain⟨hv0,hv1⟩:=hr2 v (uA V);have Z:=Gi (g:=g) (y:=y) (b:=(T,H)) (σ:=plO g y ls o.rsep k) V;have N:=N j v V;generalize plI g y (T,H) r (plO g y ls o.rsep k) j=σ at*;obtain⟨v,rfl⟩:∃m:Nat,v=m:=⟨v.toNat,xA⟩;by_cases c:(v:Int)<g.ns.length
       ·obtain⟨n,J⟩:=ak (l:=g.ns) (k:=v) xA;obtain⟨n1,n2,n3,n4⟩:=Q.nd n (uA J);have hgn:=N c;rw[tw J]at hgn;have hy:y[v]? =some (at0 y v):=aK xA;obtain⟨y1,y2⟩:=Q.y0 v;have q1:n.w.tdiv 2=n.w/2:=kD xA;have q2:(H-n.h).tdiv 2=(H-n.h)/2:=kD xA;have eB:=xR (g:=g) (y:=y) (b:=(T,H)) J;have e2:plS g y (T,H) σ v=(σ.1.set v (plB g y (T,H) v),if σ.2.2=false\/(plB g y (T,H) v).1<σ.2.1 then(plB g y (T,H) v).1 else σ.2.1,true):=by rw[plS,if_pos c,uK]
        rw[e2,eB]at Z;dsimp only at Z;obtain⟨O,S,S3⟩:=σ;dsimp only at Z G him|-;obtain⟨_,m1,m2⟩:=him;dsimp only at m1 m2;obtain⟨b0,s⟩:=ak (l:=O) (k:=v) xA;have hlb:=Q.hl;generalize hx0:at0 y v-n.w/2=x0 at*;have hx1:-1048576<=x0/\x0<=34359738368:=xA;rcases S3 with _|_
        ·rw[if_pos (.inl rfl)]at Z;refine kw kO (bj V c J hy q1 q2 hx0 (ai G s)) aa ?_
         repeat' first|exact True.intro|refine Bn.mk ?_ ?_|intro I
         refine⟨j+1,?_,eL [] _ _ (by refine⟨?_,?_⟩<;>(repeat' first|exact fmn|refine fmc ⟨(by first|rfl|(simp(disch:=omega) only[go_sem,simprocAttr,inL,Z,yW];first|done|omega|(congr 1;done))),?_⟩);done),?_⟩
         ·exact M
         ·omega
        ·by_cases d:x0<S
         ·rw[if_pos (.inr d)]at Z;refine kw kO (bj V c J hy q1 q2 hx0 (av G d s)) aa ?_
          repeat' first|exact True.intro|refine Bn.mk ?_ ?_|intro I
          refine⟨j+1,?_,eL [] _ _ (by refine⟨?_,?_⟩<;>(repeat' first|exact fmn|refine fmc ⟨(by first|rfl|(simp(disch:=omega) only[go_sem,simprocAttr,inL,Z,yW];first|done|omega|(congr 1;done))),?_⟩);done),?_⟩
          ·exact M
          ·omega
         ·rw[if_neg (by simp;omega)]at Z;refine kw kO (bj V c J hy q1 q2 hx0 (av G d s)) aa ?_
          repeat' first|exact True.intro|refine Bn.mk ?_ ?_|intro I
          refine⟨j+1,?_,eL [] _ _ (by refine⟨?_,?_⟩<;>(repeat' first|exact fmn|refine fmc ⟨(by first|rfl|(simp(disch:=omega) only[go_sem,simprocAttr,inL,Z,yW];first|done|omega|(congr 1;done))),?_⟩);done),?_⟩
          ·exact M
          ·omega
       ·rw[plS,if_neg c]at Z;refine ac kO (ai V c) aa ?_;refine⟨j+1,?_,kN (ae Z) [],?_⟩
        ·exact M
        ·omega
      ·obtain rfl:j=r.length:=xA;rw[<-eO];have hlb:=Q.hl;refine ac kO aa aa ?_;refine⟨k+1,?_,eL [] _ _ (by refine⟨?_,?_⟩<;>(repeat' first|exact fmn|refine fmc ⟨(by first|rfl|(simp(disch:=omega) only[go_sem,simprocAttr,inL];first|done|omega|(congr 1;done))),?_⟩);done),?_⟩
       ·exact U
       ·omega
    ·obtain rfl:k=ls.length:=xA;generalize plO g y ls o.rsep ls.length=σ at*;obtain⟨O,S,S3⟩:=σ;obtain⟨hm0,hm1,hm2⟩:=hom;dsimp only at hm0 hm1 hm2 L|-;refine ac kO (ae L) aa ?_;refine aq (λ(v:Nat)=>v<=g.ns.length/\(∀(j:Nat) b,j<v->O[j]? =some b->okB (shB S b)=true)) (λ v=>[(5, .ptr 5 0 0 0),(7, .ptr 7 0 0 0),(14, .ref 63 4 0 g.ns.length g.ns.length),(15, .int S),(136, .int g.ns.length),(137, .int v)]) (λ v=>[(5, .cells [.int 0, .nilS, .nilS, .nilS]),(7, .cells [.int g.ns.length, .d (am ls), .d (aw C), .d (am cs)]),(63, .row 4 ((shN S O v).map bxD))]) (λ v=>g.ns.length-v) 0 ?_ ?_ ?_
     ·exact⟨uF _,λ j b h=>xA⟩
     ·exact kN (ae @shN.eq_1) []
     ·rintro v ⟨hv,A⟩;have K:=(HM S O v).trans L;rcases uD v g.ns.length with hvl|hvg
      ·obtain⟨b,z⟩:=ak (l:=O) (k:=v) xA;have hg:=HL S O v v;rw[if_neg xA,z]at hg;obtain⟨⟨b1,b2⟩,b3,b4⟩:=hm0 b (uA z);have Z:shN S O (v+1)=(shN S O v).set v (shB S b):=by rw[shN,z]
       have h4:=Ks (shB S b);generalize shN S O v=R at*;have F:∀X:D,v<((R.map bxD).set v X).length:=λ X=>by rw[yJ,uC];omega
       have E:∀X:D,((R.map bxD).set v X)[v]? =some X:=λ X=>by rw[jC (by rw[uC];omega)]
       have hs3:∀X Y:D,v<(((R.map bxD).set v X).set v Y).length:=λ X Y=>by rw[List.set_set];exact F Y
       have hs4:∀X Y:D,(((R.map bxD).set v X).set v Y)[v]? =some Y:=λ X Y=>by rw[List.set_set];exact E Y
       have hs5:∀X Y:D,((R.map bxD).set v X).set v Y=(R.map bxD).set v Y:=λ X Y=>by rw[List.set_set]
       obtain⟨x0,y0,x1,y1⟩:=b;dsimp only[shB]at*;rcases ho:okB (x0-S,y0,x1-S,y1)with _|_<;>rw[ho]at h4
       ·refine kw kO (bV hg K F E hs3 hs4 hs5) (ae h4) ?_
        repeat' first|exact True.intro|refine Bn.mk ?_ ?_|intro I
        rw[if_neg (by rw[List.all_map,Bp,Ci];exact⟨_,uA z,by simp[shB,ho]⟩)];refine⟨_,rfl,rfl,⟨_,_,_,_,rfl,?_⟩,ap rfl,trivial⟩;simp(disch:=omega) only[go_sem,simprocAttr]
        all_goals rfl
       ·repeat' first|refine bt rfl ?_|refine aV ?_|refine wR ?_|(refine rc (h4) rfl ?_ ?_;(· first|rfl|simp(disch:=omega) only[go_sem,simprocAttr,hg,K,F,E,hs3,hs4,hs5]))|(refine bB rfl rfl (λ I=>?_) (λ I=>?_)<;>try simp only[hcL]at I)|(refine bA _ rfl rfl (λ I=>?_) (λ I=>?_)<;>(try simp only[hcL]at I)<;>try omega)|simp(disch:=omega) only[go_sem,simprocAttr,hg,K,F,E,hs3,hs4,hs5]|apply And.intro|omega|decide+kernel
        refine⟨v+1,?_,eL [] _ _ (by refine⟨?_,?_⟩<;>(repeat' first|exact fmn|refine fmc ⟨(by first|rfl|(simp(disch:=omega) only[go_sem,simprocAttr,inL,Z,yW];first|done|omega|(congr 1;done))),?_⟩);done),?_⟩
        ·exact⟨hvl,b9 A z ho⟩
        ·omega
      ·obtain rfl:v=g.ns.length:=xA;have hall:(O.map (shB S)).all okB=true:=by
        rw[List.all_map,yF];intro b z;obtain⟨j,hj⟩:=qC.1 z;exact A j b (by have:=(uB.1 hj).1;omega) hj
       rw[if_pos hall,<-RX,L];refine ac kO aa aa ?_;refine⟨_,rfl,bZ (o:=63) rfl rfl (by simp[K]) (by rw[uE (by simp[K])]),⟨_,_,_,_,rfl,?_⟩,ap rfl,trivial⟩;simp(disch:=omega) only[go_sem,simprocAttr]
       all_goals rfl
theorem Fp :kk lvA [20000,20000,20000] 10000=(5,[(3,0,0,1),(3,1,0,1),(4,0,0,1),(4,2,0,1),(1,2,30000,0)]):=by decide+kernel
theorem NG :Sx.SolveOk (kk lvA [20000,20000,20000] 10000) [0,0,30000,0,0] [0,2,2,0,1]:=by
 rw[Fp];exact Sx.solve_of 5 _ 10 _ _ (by decide+kernel) (by decide+kernel) (by decide+kernel) (by decide+kernel) (by decide+kernel) (by decide+kernel)
theorem NF :Sx.SolveOk (Sx.mirF (kk lvA [20000,20000,20000] 10000)) [0,30000,0,30000,0] [0,2,2,0,1]:=by
 rw[Fp];exact Sx.solve_of 5 _ 10 _ _ (by decide+kernel) (by decide+kernel) (by decide+kernel) (by decide+kernel) (by decide+kernel) (by decide+kernel)
theorem Ny :eU lvA [20000,20000,20000] 10000=true:=by
 rw[eU,vA];decide+kernel
theorem Nw :ah Tryz.prog 17 [lvD lvA,aj [20000,20000,20000], .int 10000] (.tup [aj [15000,0,30000], .int 0]):=by
 have h:=VA.of Ny;have Z:=Sx.Balanced_ok _ _ _ _ _ NG NF (by decide+kernel) (by decide+kernel) (Sx.fromTo_of (by decide+kernel)) (Sx.fromTo_of (by decide+kernel));rw[show Sx.midF [0,0,30000,0,0] [0,30000,0,30000,0]=[15000,0,30000,0,15000] by decide+kernel]at Z;have s:=qw lvA [20000,20000,20000] 10000 [15000,0,30000,0,15000] T3 h xC Z (by decide+kernel) (λ v Y=>by
  have:∀v:Nat,v<5->0<=at0 [15000,0,30000,0,15000] v/\at0 [15000,0,30000,0,15000] v<=34359738368:=by decide+kernel
  exact this v Y)
 rw[show fW [15000,0,30000,0,15000] (tot lvA.2.1)=[15000,0,30000] by decide+kernel]at s;exact s
theorem Nx :aO (pGr gk) [0,1,1]=(lvA,0):=by rw[pGr,wh];decide+kernel
theorem NH :swB lvA=lvA:=by decide+kernel
theorem Fq :∀k,c9 lvA k=lvA
 |0=>rfl
 |k+1=>by rw[c9,Fq k,NH]
theorem Fo :∀k,bQ lvA k=lvA
 |0=>rfl
 |k+1=>by rw[bQ,Fq,Fo k,if_neg xA]
theorem Fr :bG lvA=0:=by
 simp only[bG,du,pU,bb,dC,vA]
 decide+kernel
theorem Fm :∀i,i<2->(cY lvA i).2=false:=by
 simp only[cY,mY,orM,stM,fi,bb,dC,vA]
 decide+kernel
theorem NE :dt lvA=lvA:=by
 have h:=Fm 0 xC;have Z:=Fm 1 xC;rw[dt,fJ,Fr];show cU 2 lvA 0=lvA;rw[cU,if_pos xC,h,if_neg xC,cU,if_pos xC,Z,if_neg xC,cU]
abbrev tF :Opt:=⟨0,10000,20000,5000,8⟩
theorem Nz :ah Tryz.prog 13 [a7 gk,cv tF] (.tup [lvD lvA, .int 0, .int 0]):=by
 have h:=vc (o:=tF) D4 xC (by decide+kernel) D5;rw[lV,Nx,if_pos rfl,jj,if_pos ⟨vA,xC,xC⟩]at h;dsimp only at h;rw[Fo,NE,Fr]at h;exact h
theorem NB :PlOk gk [15000,0,30000] lvA.2.1:=by
 refine⟨λ n h=>?_,λ v=>?_,xC,λ r Z=>?_⟩
 ·simp only[yI,gV,Cp]at h;rcases h with rfl|rfl|rfl<;>decide
 ·rcases v with _|_|_|v
  ·decide
  ·decide
  ·decide
  ·rw[at0,uK,uL xB];decide
 ·simp only[yI,gV,Cp]at Z;rcases Z with rfl|rfl
  ·decide
  ·decide
theorem NC :ah Tryz.prog 21 [a7 gk,cv tF] (.tup [.sl (([(15000,0,35000,10000),(0,30000,20000,40000),(30000,30000,50000,40000)]:List Bx).map bxD),lvD lvA, .int 0]):=by
 have h:=AL (y:=[15000,0,30000]) (c:=0) NB xC xC xC Nz Nw;have e:(plO gk [15000,0,30000] lvA.2.1 20000 2).1.map (shB (plO gk [15000,0,30000] lvA.2.1 20000 2).2.1)=[(15000,0,35000,10000),(0,30000,20000,40000),(30000,30000,50000,40000)]:=by decide+kernel
 rw[show(lvA.2.1).length=2 from rfl,show tF.rsep=20000 from rfl,e,if_pos (by decide+kernel)]at h;exact h
theorem LG :ah Tryz.prog 78 [] (a7 gk):=by
 refine kE Tryz.func78 ?_;intro h B X Z;refine ac (cE (Nat.beq 7) (b:=true)) aa aa ?_;refine⟨_,_,_,_,rfl,?_⟩;simp(disch:=omega) only[go_sem,simprocAttr];rfl
theorem Hy (a b:List Bx):ah Tryz.prog 37 [.sl (a.map bxD), .sl (b.map bxD)] (.bool (decide (a=b))):=by
 refine kE Tryz.func37 ?_;intro Q B X L;have N:=bI 0 Q rfl;rw[uC]at N;by_cases R:a.length=b.length
 ·have Z:(a.length:Int)=b.length:=xA;refine ac kO (ae @Z) aa ?_;refine aq (λ(k:Nat)=>k<=a.length/\a.take k=b.take k) (λ k=>[(0, .d (.sl (a.map bxD))),(1, .d (.sl (b.map bxD))),(5, .int k)]) (λ k=>[]) (λ k=>a.length-k) 0 ?_ ?_ ?_
  ·exact⟨uF _,rfl⟩
  ·exact kN aa []
  ·rintro k ⟨M,Y⟩;rcases uD k a.length with U|O
   ·obtain⟨x,T⟩:=ak U;obtain⟨z,S⟩:=ak (l:=b) (k:=k) xA;by_cases c:x=z
    ·subst c;refine ac kO (ai T S) aa ?_;refine⟨k+1,?_,kN aa [],?_⟩
     ·exact⟨U,by rw[aM T,aM S,Y]⟩
     ·omega
    ·repeat' first|refine bt rfl ?_|refine aV ?_|refine wR ?_|(refine bB rfl rfl (λ V=>?_) (λ V=>?_)<;>try simp only[hcL]at V)|(refine bA _ rfl rfl (λ V=>?_) (λ V=>?_)<;>(try simp only[hcL]at V)<;>try omega)|simp(disch:=omega) only[go_sem,simprocAttr,T,S]|apply And.intro|omega|decide+kernel
     all_goals first|exact ay (by rw[uW (mP T S c)])|exact absurd (Prod.ext V.1 (Prod.ext V.2.1 (Prod.ext V.2.2.1 V.2.2.2))) c
   ·refine ac kO aa aa ?_;refine ay ?_;rw[uE O,uE xA]at Y;rw[uZ Y]
 ·have Z:¬(a.length:Int)=b.length:=xA;refine ac kO (ae @Z) aa ?_;exact ay (by rw[uW (λ h=>R (by rw[h]))])
theorem wZ :ah Tryz.prog 28 [] (.bool true):=by
 have Y:=LG;have V:=LK;have U:=NC;have h:=HA [0,1,1] [0,1,1];rw[uZ rfl]at h;have Z:=Hy [(15000,0,35000,10000),(0,30000,20000,40000),(30000,30000,50000,40000)] [(15000,0,35000,10000),(0,30000,20000,40000),(30000,30000,50000,40000)];rw[uZ rfl]at Z;refine kE Tryz.func28 ?_;intro T B X S;refine ac kO aa (aQ Y V U h Z) ?_;exact ay rfl
end Go.Proofs.YtjjbhjnpeenbkaaGreatDoor.Gr
namespace Go.Proofs.YtjjbhjnpeenbkaaGreatDoor.Gr
open Go Go.PS Go.Proofs Go.Proofs.YtjjbhjnpeenbkaaGreatDoor
open Go.Cy (NA InN cq bN)
set_option maxRecDepth 100000
attribute [local irreducible] ao wpG ah ax
theorem Qk (g:Gph)(Q:g.es.length<=1000000):ah Tryz.prog 43 [a7 g] (gD (nZ g)):=by
 refine kE Tryz.func43 ?_;intro U B X O;refine ac kO aa aa ?_;refine aC _ (dm 3 1 901 2 rfl rfl rfl) ?_;refine aq (λ(k:Nat)=>k<=g.es.length) (λ k=>[(1, .ptr 1 0 0 0),(2, .ptr 2 0 0 0),(3, .ptr 3 0 0 0),(4, .int k)]) (λ k=>[(1, .cells [.d (bi g.nm), .d (.bool g.dir), .d (.sl (g.ns.map ndD)), .d (.sl (g.es.map edD)), .d (.sl (g.cs.map clD))]),(2, .cells [.int 0, .nilS]),(3, .cells [.int g.ns.length, .ref 901 2 0 (fA g k).length (fA g k).length]),(901, .row 2 ((fA g k).map bo))]) (λ k=>g.es.length-k) 0 ?_ ?_ ?_
 ·exact uF _
 ·exact kN aa []
 ·intro k S;have h:=Io g S;rcases uD k g.es.length with Z|T
  ·obtain⟨e,V⟩:=ak Z;have R:=Ip V;have Y:((fA g k).map bo).take k=(fA g k).map bo:=uE (by simp[h]);refine ac kO (av V Y h) aa ?_;refine⟨k+1,?_,kN (bV R @uH.{0} @yO.{0} @uO.{0,0} @uS.{0,0} @uY.{0,0} h) [(901,32)],?_⟩
   ·exact Z
   ·omega
  ·obtain rfl:k=g.es.length:=xA;refine ac kO aa aa ?_;refine⟨_,_,_,_,rfl,?_⟩;simp(disch:=omega) only[go_sem,simprocAttr];rw[Im,aA];rfl
theorem Qs {g:Gph}(Z:cu g):∃s:D,ah Tryz.prog 42 [gD (nZ g)] (.tup [s,gD ((g.ns.length:Int),Cyc.castA (cp g))]):=by
 have h:=Cyc.rBreak8 g.ns.length (naF g) (HU Z) (rO Z.ok) (by rw[naF,uC];exact(jx Z.ok).1) Z.n8;rw[HT Z.ok];exact⟨_,h⟩
theorem xZ {g:Gph}(O:cu g):ah Tryz.prog 23 [a7 g] (.tup [gD ((g.ns.length:Int),bP (cp g) (cp g).length),aj (bE (cp g) (cp g).length)]):=by
 obtain⟨R,_,_⟩:=jx O.ok;have N:=Qk g xA;obtain⟨s,M⟩:=Qs O;have K:=lE g;generalize cp g=l at*;have h:(Cyc.castA l).length=l.length:=Cyc.castA_len l;refine kE Tryz.func23 ?_;intro L B X E;refine ac kO (ae h) (ai N M) ?_;refine aC _ (dm 6 1 901 2 rfl rfl rfl) ?_;refine aC _ (dg 7 902 1 rfl rfl) ?_;refine aq (λ(k:Nat)=>k<=l.length) (λ k=>[(2, .ptr 2 0 0 0),(5, .ptr 5 0 0 0),(6, .ptr 6 0 0 0),(7, .ref 902 1 0 (bE l k).length (bE l k).length),(8, .int k)]) (λ k=>[(2, .cells [.int 0, .nilS]),(5, .cells [.int g.ns.length, .d (aw (Cyc.castA l))]),(6, .cells [.int g.ns.length, .ref 901 2 0 (bP l k).length (bP l k).length]),(901, .row 2 ((bP l k).map bo)),(902, .row 1 ((bE l k).map D.int))]) (λ k=>l.length-k) 0 ?_ ?_ ?_
 ·exact uF _
 ·exact kN (bV @bP.eq_1 @bE.eq_1 @bl.eq_1 @jX @kV.{0} @uY.{0,0} @uU.{0}) []
 ·intro k F;have G:=nh l k;have I:(bP l k).length<=256:=by rw[bP,uC];omega
  have H:(bE l k).length<=256:=by rw[bE,uC];omega
  rcases uD k l.length with Z|J
  ·obtain⟨a,V⟩:=ak Z;have Q:(Cyc.castA l)[k]? =some ((a.1:Int),(a.2:Int)):=Cyc.castA_get V;by_cases c:a.1=a.2
   ·have U:(a.1:Int)=a.2:=xA;have Y:hO l k=false:=by rw[hO,V];simp[c]
    have T:bP l (k+1)=bP l k:=by rw[bP,bP,ni,Y];simp
    have S:bE l (k+1)=bE l k:=by rw[bE,bE,ni,Y];simp
    refine ac kO (av Q h @U) aa ?_;refine⟨k+1,?_,kN (ai T S) [],?_⟩
    ·exact Z
    ·omega
   ·have U:¬(a.1:Int)=a.2:=xA;have Y:hO l k=true:=by rw[hO,V];simp[c]
    have T:bP l (k+1)=bP l k++[((a.1:Int),(a.2:Int))]:=by rw[bP,bP,ni,Y];simp[pg,V]
    have S:bE l (k+1)=bE l k++[(k:Int)]:=by rw[bE,bE,ni,Y];simp
    refine ac kO (aE Q h @U @aA) aa ?_;refine⟨k+1,?_,kN (bV T S @uH.{0} @yO.{0} @uO.{0,0} @uS.{0,0} @uY.{0,0}) [(901,46),(902,51)],?_⟩
    ·exact Z
    ·omega
  ·obtain rfl:k=l.length:=xA;refine ac kO aa aa ?_;refine⟨_,rfl,⟨_,_,_,_,rfl,?_⟩,bZ (o:=902) rfl rfl xB (by rw[uE xB]),trivial⟩;simp(disch:=omega) only[go_sem,simprocAttr];rw[aA]
theorem x9 {g:Gph}(O:cu g):ah Tryz.prog 33 [a7 g] (Sx.nD (cL g)):=by
 obtain⟨S,_,_⟩:=jx O.ok;have M:=xZ O;have K:=lE g;rw[cL];generalize cp g=l at*;have H:=nh l l.length;have U:(bP l l.length).length=(bl l l.length).length:=by rw[bP,uC]
 have Z:(bE l l.length).length=(bl l l.length).length:=by rw[bE,uC]
 refine kE Tryz.func33 ?_;intro L B X C;refine ac kO aa (ae M) ?_;refine aC _ (dm 5 1 901 4 rfl rfl rfl) ?_;refine aq (λ(k:Nat)=>k<=(bl l l.length).length) (λ k=>[(1, .ptr 1 0 0 0),(2, .ptr 2 0 0 0),(3, .ptr 3 0 0 0),(4, .d (aj (bE l l.length))),(5, .ptr 5 0 0 0),(6, .int k)]) (λ k=>[(1, .cells [.d (bi g.nm), .d (.bool g.dir), .d (.sl (g.ns.map ndD)), .d (.sl (g.es.map edD)), .d (.sl (g.cs.map clD))]),(2, .cells [.int 0, .nilS]),(3, .cells [.int g.ns.length, .d (aw (bP l l.length))]),(5, .cells [.int g.ns.length, .ref 901 4 0 (de g l k).length (de g l k).length]),(901, .row 4 ((de g l k).map Sx.bdD))]) (λ k=>(bl l l.length).length-k) 0 ?_ ?_ ?_
 ·exact uF _
 ·exact kN (aE @de.eq_1 @yQ.{0} @uY.{0,0} @uU.{0}) []
 ·intro k I;have h:=pm (g:=g) I;rcases uD k (bl l l.length).length with Y|J
  ·obtain⟨i,V⟩:=ak Y;obtain⟨q,E⟩:=oC (uA V);obtain⟨a,R⟩:=ak q;obtain⟨e,Q⟩:=ak (l:=g.es) (k:=i) xA;have G:(bP l l.length)[k]? =some ((a.1:Int),(a.2:Int)):=by rw[bP,uJ,V];simp[pg,R]
   have F:(bE l l.length)[k]? =some (i:Int):=by rw[bE,uJ,V];rfl
   have N:de g l (k+1)=de g l k++[((a.1:Int),(a.2:Int),e.ln,e.wt)]:=by
    rw[de,de,aM V,uO];simp[pj,R,Q]
   have T:((de g l k).map Sx.bdD).take k=(de g l k).map Sx.bdD:=uE (by simp[h]);refine ac kO (bV G F Q U Z h T) aa ?_;refine⟨k+1,?_,kN (bV N @uH.{0} @yO.{0} @uO.{0,0} @uS.{0,0} @uY.{0,0} h) [(901,50)],?_⟩
   ·exact Y
   ·omega
  ·obtain rfl:k=(bl l l.length).length:=xA;refine ac kO (ae Z) aa ?_;refine⟨_,_,_,_,rfl,?_⟩;simp(disch:=omega) only[go_sem,simprocAttr];rw[aA]
end Go.Proofs.YtjjbhjnpeenbkaaGreatDoor.Gr
namespace Go.Proofs.YtjjbhjnpeenbkaaGreatDoor.Gr
open Go Go.PS Go.Proofs Go.Proofs.YtjjbhjnpeenbkaaGreatDoor Go.Proofs.YtjjbhjnpeenbkaaGreatDoor.Al
open Go.Cy (NA InN cq bN)
set_option maxRecDepth 100000
section draw
variable {g:Gph}{y:List Int}{ls:List (List Int)}{sep:Int}
theorem Pf (b:Int×Int){r:List Int}(J:∀v,v∈r->0<=v){σ:PS3}(O:σ.1.length=g.ns.length):∀j,
  (∀v:Nat,v<g.ns.length->(v:Int)∈r.take j->(plI g y b r σ j).1[v]? =some (plB g y b v)/\(plI g y b r σ j).2.1<=(plB g y b v).1/\(plI g y b r σ j).2.2=true)/\
  (∀v:Nat,¬(v:Int)∈r.take j->(plI g y b r σ j).1[v]? =σ.1[v]?)/\(σ.2.2=true->(plI g y b r σ j).2.2=true/\(plI g y b r σ j).2.1<=σ.2.1):=by
 intro j
 induction j with
 |zero=>exact⟨λ v _ h=>by simp at h,λ v _=>rfl,λ h=>⟨h,qR _⟩⟩
 |succ j E=>
  obtain⟨N,M,L⟩:=E;have q:=(xS g y b r σ j).trans O;rcases uD j r.length with S|X
  ·obtain⟨v,Q⟩:=ak S;have G:=J v (uA Q);rw[Gi Q,aM Q,plS];generalize plI g y b r σ j=T at*;obtain⟨m,rfl⟩:∃m:Nat,v=m:=⟨v.toNat,xA⟩;split
   ·rename_i c;have hm:m<g.ns.length:=xA;rw[uK];have U:∀x:Int,T.2.1<=x->T.2.2=true->(if T.2.2=false\/(plB g y b m).1<T.2.1 then(plB g y b m).1 else T.2.1)<=x:=λ x F H=>by
     split
     ·rename_i Y;rcases Y with Y|Y
      ·rw[H]at Y;cases Y
      ·omega
     ·exact F
    refine⟨λ u R Z=>?_,λ u Z=>?_,λ I=>?_⟩
    ·dsimp only;by_cases e:u=m
     ·subst e;refine⟨jC xA,?_,rfl⟩;split
      ·exact qR _
      ·rename_i Y;omega
     ·have V:(u:Int)∈r.take j:=by
       rcases yP.1 Z with h|h
       ·exact h
       ·rw[uX]at h;omega
      obtain⟨C,B,A⟩:=N u R V;exact⟨by rw[jT (λ h=>e h.symm)];exact C,U _ B A,rfl⟩
    ·dsimp only;have:u≠m:=λ e=>Z (yP.2 (.inr (by rw[e];simp)))
     rw[jT (λ h=>this h.symm)];exact M u (λ h=>Z (yP.2 (.inl h)))
    ·obtain⟨z,s⟩:=L I;exact⟨rfl,U _ s z⟩
   ·rename_i c;refine⟨λ u R Z=>?_,λ u Z=>M u (λ h=>Z (yP.2 (.inl h))),L⟩;rcases yP.1 Z with h|h
    ·exact N u R h
    ·rw[uX]at h;omega
  ·have e:r.take (j+1)=r.take j:=by rw[uE X,uE xA]
   have K:plI g y b r σ (j+1)=plI g y b r σ j:=by rw[plI,uL X]
   rw[e,K];exact⟨N,M,L⟩
theorem Gj (M:ls.flatten.Nodup)(H:∀r,r∈ls->∀v,v∈r->0<=v):∀k,∀(i:Nat) r (v:Nat),i<k->ls[i]? =some r->(v:Int)∈r->v<g.ns.length->
  (plO g y ls sep k).1[v]? =some (plB g y (bX g ls sep i,hL g ls i) v)/\(plO g y ls sep k).2.1<=(plB g y (bX g ls sep i,hL g ls i) v).1/\(plO g y ls sep k).2.2=true:=by
 intro k
 induction k with
 |zero=>intro i r v h;omega
 |succ k L=>
  intro i r v s Z X S;rcases uD k ls.length with T|V
  ·obtain⟨q,Y⟩:=ak T;obtain⟨O,N,K⟩:=Pf (g:=g) (y:=y) (bX g ls sep k,hL g ls k) (H q (uA Y)) (tW g y ls sep k) q.length;rw[Gk Y];rw[yE]at O N;by_cases e:i=k
   ·subst e;rw[Y]at Z;cases Z;exact O v S X
   ·obtain⟨b,C,J⟩:=L i r v xA Z X S;have R:¬(v:Int)∈q:=λ U=>by
     obtain⟨p,F⟩:=qC.1 X;obtain⟨E,Q⟩:=qC.1 U;have A:=dJ.lay M (v:=(v:Int)) (r:=i) (p:=p) ⟨r,Z,F⟩;have z:=dJ.lay M (v:=(v:Int)) (r:=k) (p:=E) ⟨q,Y,Q⟩;omega
    rw[N v R];obtain⟨I,B⟩:=K J;exact⟨b,xA,I⟩
  ·have G:=(uB.1 Z).1;have e:plO g y ls sep (k+1)=plO g y ls sep k:=by rw[plO,uL V]
   rw[e];exact L i r v xA Z X S
theorem Iv (h:Low g)(X:0<=sep){i:Nat}:∀{k:Nat},i<k->bX g ls sep i+hL g ls i+sep<=bX g ls sep k:=by
 intro k
 induction k with
 |zero=>intro h;omega
 |succ k Y=>
  intro Z;have:=oA h ls k;have e:bX g ls sep (k+1)=bX g ls sep k+(hL g ls k+sep):=rfl;by_cases c:i=k
  ·subst c;omega
  ·have:=Y xA;omega
end draw
theorem Ri {a:Lv}{ws:List Int}{sep:Int}{X:List Int}(V:(cN ws sep a.2.1 a.2.1.length).any (oi X)=false){i:Nat}{r:List Int}(h:a.2.1[i]? =some r){p:Nat}{u v:Int}(S:r[p]? =some u)(Z:r[p+1]? =some v):
  apF ws sep u v<=at0 X v-at0 X u:=by
 have U:=(uB.1 h).1;have R:=(uB.1 Z).1;have Y:at0 r (p:Nat)=u:=by rw[at0,uK,S];rfl
 have ev:at0 r ((p+1:Nat):Int)=v:=by rw[at0,uK,Z];rfl
 have T:(u,v,apF ws sep u v,0)∈cN ws sep a.2.1 a.2.1.length:=oH.2 ⟨i,U,by
  rw[prL,h];exact uR.2 ⟨p,yD.2 xA,by rw[t8,Y,ev]⟩⟩
 have:=qH.1 V _ T;simp only[oi,uG]at this;omega
theorem Hj {a:Lv}{ws:List Int}{sep:Int}{X:List Int}(h:VA a ws sep)(T:(cN ws sep a.2.1 a.2.1.length).any (oi X)=false){i:Nat}{r:List Int}(Q:a.2.1[i]? =some r){p:Nat}{u:Int}(O:r[p]? =some u):
  ∀q v,p<q->r[q]? =some v->at0 X u-eV ws u/2+eV ws u+sep<=at0 X v-eV ws v/2:=by
 have Y:=h.sep;intro q
 induction q with
 |zero=>intro v R;omega
 |succ q N=>
  intro v S V;have R:=(uB.1 V).1;obtain⟨w,Z⟩:=ak (show q<r.length by omega);have U:=Ri T Q Z V;have w1:=mQ h u;have M:=mQ h w;have L:=mQ h v;rw[apF]at U;by_cases c:p=q
  ·subst c;rw[O]at Z;cases Z;omega
  ·have:=N w xA Z;omega
theorem IW {g:Gph}{v:Nat}{n:Nd}(h:g.ns[v]? =some n):eV (cg g) v=n.w:=by
 have Z:=(uB.1 h).1;rw[eV,if_pos (by rw[cg,uC];omega),at0,uK,cg,uJ,h];rfl
theorem Qq {g:Gph}{r:List Int}(R:(aO (pGr g) r).2=0){z:Lv}(V:Kin (aO (pGr g) r).1 z){v:Nat}(J:v<g.ns.length):∃row,z.2.1[(at0 r v).toNat]? =some row/\(v:Int)∈row:=by
 have b:=built R;have M:r.length=g.ns.length:=by have:=b.len;rw[pGr]at this;dsimp only at this;omega
 have Q:=E7 b.vals (n:=v) (by rw[aX,uH];omega);have S:at0 (aX r (pGr g).2 (pGr g).2.length) v=at0 r v:=by
  rw[at0,at0,aX,uK,qZ xA]
 have K:=b.rk v;rw[S]at Q;have Z:(v:Int)∈(dq (aX r (pGr g).2 (pGr g).2.length) (lP (pGr g) r)).flatten:=lT.1 xA;obtain⟨row,N,Y⟩:=zX.1 Z;obtain⟨i,U⟩:=qC.1 N;obtain⟨p,O⟩:=qC.1 Y;have e:=dJ.lay wV (v:=(v:Int)) (r:=i) (p:=p) ⟨row,U,O⟩;have T:(at0 r v).toNat=i:=xA;have h:(aO (pGr g) r).1.2.1[i]? =some row:=by rw[b.eq];dsimp only;rw[w6];exact U
 have X:=(uB.1 h).1;have L:=V.lay X;refine⟨_,by rw[T];exact L,?_⟩;have:=(V.perm i).mem_iff (a:=(v:Int));rw[cT h]at this;exact this.2 Y
def iz (g:Gph)(y:List Int)(ls:List (List Int))(sep:Int):List Bx:=(plO g y ls sep ls.length).1.map (shB (plO g y ls sep ls.length).2.1)
structure Drawn (g:Gph)(o:Opt)(R:Nat->Nat)(bs:List Bx):Prop where
 len:bs.length=g.ns.length
 one:∀v:Nat,v<g.ns.length->∃b n,bs[v]? =some b/\g.ns[v]? =some n/\b.2.2.1-b.1=n.w/\b.2.2.2-b.2.1=n.h/\0<=b.1/\0<=b.2.1/\okB b=true
 two:∀(u v:Nat) b c,u<g.ns.length->v<g.ns.length->u≠v->bs[u]? =some b->bs[v]? =some c->
  (R u=R v->o.nsep<=b.1-c.2.2.1\/o.nsep<=c.1-b.2.2.1)/\¬((b.1<c.2.2.1/\c.1<b.2.2.1)/\b.2.1<c.2.2.2/\c.2.1<b.2.2.2)
 dn:∀(u v:Nat) b c,u<g.ns.length->v<g.ns.length->R u<R v->bs[u]? =some b->bs[v]? =some c->o.rsep<=c.2.1-b.2.2.2
theorem v7 {g:Gph}{ls:List (List Int)}{O:List Arc}{cs:List (List Int)}{y:List Int}{R:Nat->Nat}{Y sep:Int}(M:VA ((g.ns.length:Int),ls,O,cs) (cg g) Y)(K:PlOk g y ls)
  (N:∀v:Nat,v<g.ns.length->∃row,ls[R v]? =some row/\(v:Int)∈row){v:Nat}(Z:v<g.ns.length):∃n row,g.ns[v]? =some n/\ls[R v]? =some row/\(v:Int)∈row/\
   (iz g y ls sep)[v]? =some (shB (plO g y ls sep ls.length).2.1 (at0 y v-n.w/2,bX g ls sep (R v)+(hL g ls (R v)-n.h)/2,at0 y v-n.w/2+n.w,bX g ls sep (R v)+(hL g ls (R v)-n.h)/2+n.h))/\
   (plO g y ls sep ls.length).2.1<=at0 y v-n.w/2/\n.h<=hL g ls (R v):=by
 obtain⟨n,U⟩:=ak Z;obtain⟨row,X,V⟩:=N v Z;obtain⟨T,S,_⟩:=Gj (g:=g) (y:=y) (sep:=sep) M.nodup (λ r J v Z=>((K.hv r J).2 v Z).1) ls.length (R v) row v (uB.1 X).1 X V Z;obtain⟨j,L⟩:=qC.1 V;have Q:=EA (g:=g) X L xA;rw[tw U]at Q;rw[xR U]at T S;exact⟨n,row,U,X,V,by rw[iz,uJ,T];rfl,S,Q⟩
theorem drawn {g:Gph}{o:Opt}{ls:List (List Int)}{ar:List Arc}{cs:List (List Int)}{y:List Int}{R:Nat->Nat}(H:VA ((g.ns.length:Int),ls,ar,cs) (cg g) o.nsep)
  (hq:(cN (cg g) o.nsep ls ls.length).any (oi y)=false)(S:PlOk g y ls)(hs:0<=o.rsep)(hR:∀v:Nat,v<g.ns.length->∃row,ls[R v]? =some row/\(v:Int)∈row)(B:(iz g y ls o.rsep).all okB=true):Drawn g o R (iz g y ls o.rsep):=by
 have hsep:=H.sep;have J:(iz g y ls o.rsep).length=g.ns.length:=by rw[iz,uC,tW]
 have Y:=λ v V=>v7 (sep:=o.rsep) H S hR (v:=v) V
 generalize(plO g y ls o.rsep ls.length).2.1=m at*;generalize iz g y ls o.rsep=bs at*;have T:∀(u v:Nat) b c,u<g.ns.length->v<g.ns.length->R u<R v->bs[u]? =some b->bs[v]? =some c->o.rsep<=c.2.1-b.2.2.2:=λ u v b c I V C L K=>by
  obtain⟨n1,r1,O,N,G,U,A,z⟩:=Y u I;obtain⟨n2,r2,F,E,s,M,b5,b6⟩:=Y v V;rw[L]at U;cases U;rw[K]at M;cases M;have:=Iv (ls:=ls) (sep:=o.rsep) S.low hs C;have q1:=S.nd n1 (uA O);have q2:=S.nd n2 (uA F);simp only[shB];omega
 refine⟨J,λ v V=>?_,λ u v b c I V huv L K=>?_,T⟩
 ·obtain⟨n,row,O,N,G,U,A,z⟩:=Y v V;have q1:=S.nd n (uA O);have ht:0<=bX g ls o.rsep (R v):=by
   rcases qO (R v)with h|h
   ·rw[h];exact qR _
   ·have h1:=Iv (g:=g) (ls:=ls) (sep:=o.rsep) S.low hs h;have h2:=oA S.low ls 0;have h3:bX g ls o.rsep 0=0:=rfl;omega
  refine⟨_,n,U,O,?_,?_,?_,?_,yF.1 B _ (uA U)⟩<;>simp only[shB]<;>omega
 ·have Z:R u=R v->o.nsep<=b.1-c.2.2.1\/o.nsep<=c.1-b.2.2.1:=λ he=>by
   obtain⟨n1,r1,O,N,G,U,A,z⟩:=Y u I;obtain⟨n2,r2,F,E,s,M,b5,b6⟩:=Y v V;rw[L]at U;cases U;rw[K]at M;cases M;rw[he]at N;rw[N]at E;cases E;obtain⟨p,Q⟩:=qC.1 G;obtain⟨q,X⟩:=qC.1 s;have w1:=IW O;have w2:=IW F;simp only[shB];rcases zP p q with h|h|h
   ·have:=Hj H hq (i:=R v) N Q q _ h X;rw[w1,w2]at this
    right;omega
   ·subst h;rw[Q]at X;have:(u:Int)=v:=Ct X;omega
   ·have:=Hj H hq (i:=R v) N X p _ h Q;rw[w1,w2]at this
    left;omega
  refine⟨Z,λ⟨⟨x1,x2⟩,y1,y2⟩=>?_⟩;rcases zP (R u) (R v)with h|h|h
  ·have:=T u v b c I V h L K;omega
  ·have:=Z h;omega
  ·have:=T v u c b V I h K L;omega
theorem OV {g:Gph}{r:List Int}(h:(aO (pGr g) r).2=0)(n:Nat):(dt (bQ (aO (pGr g) r).1 n)).1=g.ns.length:=by
 rw[dt,GX,vF,(built h).eq];rfl
structure Parts (g:Gph)(o:Opt)(R:Nat->Nat)(zl:List (List Int))(za:List Arc)(zc:List (List Int))(y:List Int):Prop where
 va:VA ((g.ns.length:Int),zl,za,zc) (cg g) o.nsep
 pl:PlOk g y zl
 ny:g.ns.length<=y.length
 yl:y.length=tot zl
 gap:(cN (cg g) o.nsep zl zl.length).any (oi y)=false
 rk:∀v:Nat,v<g.ns.length->∃row,zl[R v]? =some row/\(v:Int)∈row
 wd:wide ((g.ns.length:Int),zl,za,zc)
 lay:∀v:Nat,v<g.ns.length->bz zl v=R v
 al:za.length<=700
 solve:ah Tryz.prog 17 [lvD ((g.ns.length:Int),zl,za,zc),aj (cg g), .int o.nsep] (.tup [aj y, .int 0])
 bal:∃A f b f2,Sx.Best (e9 ((g.ns.length:Int),zl,za,zc)) (dQ ((g.ns.length:Int),zl,za,zc) (cg g) o.nsep) A f/\Sx.Best (e9 ((g.ns.length:Int),zl,za,zc)) ((dQ ((g.ns.length:Int),zl,za,zc) (cg g) o.nsep).map Sx.mirB) b f2/\Bal ((g.ns.length:Int),zl,za,zc) (cg g) o.nsep (Sx.midF A b)/\y=fW (Sx.midF A b) (tot zl)
theorem O8 {g:Gph}{o:Opt}{r f:List Int}(E:cu g)(ho:okO o=true)(hl:g.es.length<=11)(hB:Sx.Best g.ns.length (cL g).2 r f)(N:(aO (pGr g) r).2=0)(S:aH (aO (pGr g) r).1=true):
  ∃K M L y,dt (bQ (aO (pGr g) r).1 o.rd.toNat)=((g.ns.length:Int),K,M,L)/\Parts g o (λ v=>(at0 r v).toNat) K M L y:=by
 have hpl:=tU (g:=g);obtain⟨q1,q2⟩:=vG N E.n8 xA;have G:=ra S q1 o.rd.toNat;obtain⟨U,_,_⟩:=Qz G;have Z:=OX E ho N U.ok;have V:=OV N o.rd.toNat;have O:=λ v S=>Qq N U (v:=v) S
 generalize dt (bQ (aO (pGr g) r).1 o.rd.toNat)=z at*;have R:z.2.2.1.length<=700:=by rw[U.arcs];exact q2
 obtain⟨A,f,b,f2,hA,H,T⟩:=J2 Z R;have hml:(Sx.midF A b).length=tot z.2.1+z.2.2.1.length:=T.len;have C:=Z.tt;have s1:=qw z (cg g) o.nsep (Sx.midF A b) U.wd Z xA T.calls xA T.bd;have Y:=LZ Z T;have Q:=Ea (Sx.midF A b) (tot z.2.1);have s:∀v:Nat,0<=at0 (fW (Sx.midF A b) (tot z.2.1)) v/\at0 (fW (Sx.midF A b) (tot z.2.1)) v<=34359738368:=λ v=>by
  rcases uD v (tot z.2.1)with h|h
  ·rw[wm xA xA];obtain⟨l1,l2⟩:=Fv Z T xA;have:=l2 v h;have:=(T.bd v xA).2;omega
  ·rw[at0,uK,uL xA];decide
 have B:=U.wd;have F:=U.ok;have X:∀v:Nat,v<g.ns.length->bz z.2.1 v=((at0 r v).toNat:Nat):=λ v S=>by
  obtain⟨row,J,I⟩:=O v S;obtain⟨p,hp⟩:=qC.1 I;exact dJ.lay Z.nodup (v:=(v:Int)) (p:=p) ⟨row,J,hp⟩
 clear U;generalize hy:fW (Sx.midF A b) (tot z.2.1)=y at*;obtain⟨zn,K,M,L⟩:=z;dsimp only at V Q O C hy X R;subst V;refine⟨K,M,L,y,rfl,Z,?_,?_,Q,?_,O,B,X,R,s1,A,f,b,f2,hA,H,T,hy.symm⟩
 ·refine⟨λ n hn=>?_,s,Z.ls,λ q hq=>⟨?_,λ v S=>?_⟩⟩
  ·obtain⟨k,hk⟩:=qC.1 hn;exact FP E.ok hk
  ·obtain⟨i,hi⟩:=qC.1 hq;have:=E5 F i;rw[cT hi]at this;omega
  ·have:=Z.vert q hq v S;dsimp only at this;omega
 ·rcases qO g.ns.length with h|h
  ·omega
  ·obtain⟨row,J,I⟩:=O (g.ns.length-1) xA;have:=Z.vert row (uA J) _ I;dsimp only at this;omega
 ·rw[vM,Z.ok,if_pos rfl]at Y;split at Y
  ·split at Y
   ·cases Y
   ·rename_i h;simpa using h
  ·cases Y
end Go.Proofs.YtjjbhjnpeenbkaaGreatDoor.Gr
namespace Go.Proofs.YtjjbhjnpeenbkaaGreatDoor.Gr
open Go Go.PS Go.Proofs Go.Proofs.YtjjbhjnpeenbkaaGreatDoor Go.Proofs.YtjjbhjnpeenbkaaGreatDoor.Al
set_option maxRecDepth 100000
attribute [local irreducible] ao wpG ah ax
def f6 (g:Gph)(ls:List (List Int))(sep:Int)(k:Nat):List Int:=(List.range k).map λ i=>bX g ls sep i
def fX (g:Gph)(ls:List (List Int))(k:Nat):List Int:=(List.range k).map λ i=>hL g ls i
theorem Iw (g:Gph)(ls:List (List Int))(sep:Int)(k:Nat):(f6 g ls sep k).length=k:=by simp[f6]
theorem EC (g:Gph)(ls:List (List Int))(k:Nat):(fX g ls k).length=k:=by simp[fX]
theorem PQ (g:Gph)(o:Opt)(ls:List (List Int))(N:List Arc)(cs:List (List Int))(h:Low g)(s:0<=o.rsep/\o.rsep<=1048576)(hl:ls.length<=256)(K:g.ns.length<=1000)(q:∀y∈ls,y.length<=100000/\∀v∈y,0<=v):
  ah Tryz.prog 69 [a7 g,cv o,lvD (g.ns.length,ls,N,cs)] (.tup [aj (f6 g ls o.rsep ls.length),aj (fX g ls ls.length)]):=by
 refine kE Tryz.func69 ?_;intro C B X w0;refine ac kO aa aa ?_;refine aC _ (dg 8 901 1 rfl rfl) ?_;refine aC _ (dg 9 902 1 rfl rfl) ?_;refine aq (λ(k:Nat)=>k<=ls.length) (λ k=>[(3, .ptr 3 0 0 0),(4, .ptr 4 0 0 0),(5, .ptr 5 0 0 0),(8, .ref 901 1 0 (f6 g ls o.rsep k).length (f6 g ls o.rsep k).length),(9, .ref 902 1 0 (fX g ls k).length (fX g ls k).length),(10, .int (bX g ls o.rsep k)),(11, .int k)]) (λ k=>[(3, .cells [.d (bi g.nm), .d (.bool g.dir), .d (.sl (g.ns.map ndD)), .d (.sl (g.es.map edD)), .d (.sl (g.cs.map clD))]),(4, .cells [.int o.md, .int o.nsep, .int o.rsep, .int o.mg, .int o.rd]),(5, .cells [.int g.ns.length, .d (am ls), .d (aw N), .d (am cs)]),(901, .row 1 ((f6 g ls o.rsep k).map D.int)),(902, .row 1 ((fX g ls k).map D.int))]) (λ k=>ls.length-k) 0 ?_ ?_ ?_
 ·exact uF _
 ·exact kN (bq @f6.eq_1 @fX.eq_1 @jX @uY.{0,0} @uU.{0} @bX.eq_1) []
 ·intro k hk;have U:=Iw g ls o.rsep k;have Y:=EC g ls k;have ht:=u1 h ls s k;rcases uD k ls.length with R|A
  ·obtain⟨y,Q⟩:=ak R;obtain⟨hy1,J⟩:=q y (uA Q);have hh:=oA h ls k;have F:hL g ls k=hN g y y.length:=by rw[hL,Q]
   have E:bX g ls o.rsep (k+1)=bX g ls o.rsep k+(hL g ls k+o.rsep):=rfl;have I:f6 g ls o.rsep (k+1)=f6 g ls o.rsep k++[bX g ls o.rsep k]:=by rw[f6,f6,qE,uO];rfl
   have G:fX g ls (k+1)=fX g ls k++[hL g ls k]:=by rw[fX,fX,qE,uO];rfl
   generalize hT:bX g ls o.rsep k=T at*;generalize hA:f6 g ls o.rsep k=S at*;generalize hB:fX g ls k=H at*;refine ac kO aa aa ?_;refine aq (λ(j:Nat)=>j<=y.length) (λ j=>[(3, .ptr 3 0 0 0),(4, .ptr 4 0 0 0),(5, .ptr 5 0 0 0),(8, .ref 901 1 0 S.length S.length),(9, .ref 902 1 0 H.length H.length),(10, .int T),(11, .int k),(12, .int (hN g y j)),(13, .int j)]) (λ j=>[(3, .cells [.d (bi g.nm), .d (.bool g.dir), .d (.sl (g.ns.map ndD)), .d (.sl (g.es.map edD)), .d (.sl (g.cs.map clD))]),(4, .cells [.int o.md, .int o.nsep, .int o.rsep, .int o.mg, .int o.rd]),(5, .cells [.int g.ns.length, .d (am ls), .d (aw N), .d (am cs)]),(901, .row 1 (S.map D.int)),(902, .row 1 (H.map D.int))]) (λ j=>y.length-j) 0 ?_ ?_ ?_
   ·exact uF _
   ·exact kN (ae @hN.eq_1) []
   ·intro j hj;rcases uD j y.length with V|z
    ·obtain⟨v,Z⟩:=ak V;have b:=J v (uA Z);obtain⟨v,rfl⟩:∃m:Nat,v=m:=⟨v.toNat,xA⟩;have O:hN g y (j+1)=if(v:Int)<g.ns.length then(if hN g y j<jd g v then jd g v else hN g y j)else hN g y j:=by rw[hN,Z]
     by_cases c:(v:Int)<g.ns.length
     ·obtain⟨n,K⟩:=ak (l:=g.ns) (k:=v) xA;rw[if_pos c,tw K]at O;refine ac kO (aE Q Z c K) aa ?_;refine⟨j+1,?_,kN (ae O) [],?_⟩
      ·exact V
      ·omega
     ·rw[if_neg c]at O;refine ac kO (av Q Z c) aa ?_;refine⟨j+1,?_,kN (ae O) [],?_⟩
      ·exact V
      ·omega
    ·obtain rfl:j=y.length:=xA;rw[<-F];have M:(S.map D.int).take k=S.map D.int:=uE (by simp[U]);have L:(H.map D.int).take k=H.map D.int:=uE (by simp[Y]);refine ac kO (aQ Q U Y M L) aa ?_;refine⟨k+1,?_,kN (bj E I G @uH.{0} @yO.{0} @uO.{0,0} @uS.{0,0} (av @uY.{0,0} U Y)) [(901,56),(902,60)],?_⟩
     ·exact R
     ·omega
  ·obtain rfl:k=ls.length:=xA;refine ac kO aa aa ?_;exact⟨_,rfl,bZ (o:=901) rfl rfl xB (by rw[uE xB]),bZ (o:=902) rfl rfl xB (by rw[uE xB]),trivial⟩
end Go.Proofs.YtjjbhjnpeenbkaaGreatDoor.Gr
namespace Go.Proofs.YtjjbhjnpeenbkaaGreatDoor.Gr
open Go Go.PS Go.Proofs Go.Proofs.YtjjbhjnpeenbkaaGreatDoor
open Go.Cy (NA InN cq bN)
set_option maxRecDepth 100000
attribute [local irreducible] ao wpG ah ax
theorem T6 {ST:Nat->List Sx.Stp}{S:Nat->Prop}{M:Int}(Y:∀v s,s∈ST v->s.2.1<=M){k v:Nat}{d:Int}(h:Sx.Wk ST S k v d):d<=M*k:=by
 induction h with
 |start v h=>simp
 |step k v d s _ Z X=>
  have:=Y v s Z;rw[qQ,zN];omega
theorem q8 {n:Nat}{l:List Sx.Bd}{r f:List Int}(Y:Sx.BdsOk n l)(h:Sx.Best n l r f)(Z:∀b,b∈l->1<=b.2.2.1/\b.2.2.1<=4)(v:Nat)(T:v<n):0<=Sx.at0 r v/\Sx.at0 r v<=4*(n:Int):=by
 refine⟨(Sx.best_bd Y h v).1,?_⟩;obtain⟨k,R,S⟩:=Sx.opt_short (Sx.steps_good (f:=f) Y) (λ u U=>Sx.mem_allI.1 U) (h.opt v T);have:=T6 (M:=4) (λ u s V=>by
  obtain⟨j,b,X,⟨_,e⟩|⟨_,_,e⟩⟩:=Sx.mem_steps.1 V
  ·have:=Z b (uA X);rw[e];dsimp only;omega
  ·have:=Z b (uA X);rw[e];dsimp only;omega) S
 omega
theorem vv {g:Gph}(T:cu g)(Y:∀e,e∈g.es->e.ln<=4):∀b,b∈(cL g).2->1<=b.2.2.1/\b.2.2.1<=4:=by
 intro b h;have V:=lE g;rw[cL]at h;dsimp only at h;rw[de,uE (uI _)]at h;obtain⟨i,U,rfl⟩:=uR.1 h;obtain⟨q,_⟩:=oC U;obtain⟨a,X⟩:=ak q;obtain⟨e,Z⟩:=ak (l:=g.es) (k:=i) xA;have:=ro T.ok Z;have:=Y e (uA Z);rw[pj,X,Z];dsimp only;omega
end Go.Proofs.YtjjbhjnpeenbkaaGreatDoor.Gr
namespace Go.Proofs.YtjjbhjnpeenbkaaGreatDoor.Gr
open Go Go.PS Go.Proofs Go.Proofs.YtjjbhjnpeenbkaaGreatDoor Go.Proofs.YtjjbhjnpeenbkaaGreatDoor.Al
open Go.Cy (NA InN cq bN)
set_option maxRecDepth 100000
attribute [local irreducible] ao wpG ah ax
end Go.Proofs.YtjjbhjnpeenbkaaGreatDoor.Gr
namespace Go.Proofs.YtjjbhjnpeenbkaaGreatDoor.Gr
open Go Go.PS Go.Proofs Go.Proofs.YtjjbhjnpeenbkaaGreatDoor
open Go.Cy (NA InN cq bN)
set_option maxRecDepth 100000
attribute [local irreducible] ao wpG ah ax
theorem K9 {g:Gph}(X:cu g)(U:∀e,e∈g.es->e.ln<=4){r f:List Int}(T:Sx.Best g.ns.length (cL g).2 r f):Sx.costB (cL g).2 r<=1099511627776:=by
 have O:=nB X;obtain⟨V,hn,q⟩:=Sx.bdsOk_of (n:=g.ns.length) (l:=(cL g).2) O;have Z:=q8 V T (vv X U);have Y:=Sx.best_pot V T;have s:=X.n8;have:=(Sx.sumI_le (f:=Sx.costAt r (cL g).2) (c:=256000) (m:=(cL g).2.length) (λ k N=>by
  obtain⟨b,h⟩:=ak N;obtain⟨J,I,H,G,F,E,C,R,Q⟩:=V k b h;have L:=Z b.1.toNat xA;have K:=Z b.2.1.toNat xA;rw[show((b.1.toNat:Nat):Int)=b.1 by omega]at L;rw[show((b.2.1.toNat:Nat):Int)=b.2.1 by omega]at K;have S:=(Y k b h).1;have M:=vv X U b (uA h);dsimp only at S;rw[show((b.1.toNat:Nat):Int)=b.1 by omega,show((b.2.1.toNat:Nat):Int)=b.2.1 by omega]at S;rw[Sx.costAt_some h];have B:0<=b.2.2.2*(Sx.at0 r b.2.1-Sx.at0 r b.1):=Du R xA;have A:b.2.2.2*(Sx.at0 r b.2.1-Sx.at0 r b.1)<=8000*32:=Int.mul_le_mul Q xA xA xA;omega) (cL g).2.length (uI _)).2
 have z:(256000:Int)*((cL g).2.length:Int)<=256000*4096:=jU xA xA;rw[Sx.costB];omega
theorem Qg {g:Gph}(V:Mod g)(h:ee g≠0):ah Tryz.prog 30 [a7 g] (.tup [.sl [], .sl [], .int (ee g)]):=by
 have Z:=Hb g V;refine kE Tryz.func30 ?_;intro Y B X U;refine ac kO (ae h) (ae Z) ?_;exact⟨_,rfl,rfl,rfl,ap rfl,trivial⟩
theorem GP {g:Gph}(h:cu g)(G:∀e,e∈g.es->e.ln<=4){r f:List Int}(R:Sx.Best g.ns.length (cL g).2 r f):∃f',ah Tryz.prog 30 [a7 g] (.tup [aj r,aj (o7 g f'), .int 0]):=by
 have J:=Hb g h.md;rw[h.ok]at J;have A:=x9 h;have F:=nB h;obtain⟨Q,hn,hl⟩:=Sx.bdsOk_of (n:=g.ns.length) (l:=(cL g).2) F;have U:=Sx.potB_zeros (Sx.best_pot Q R);obtain⟨K,f',Z,H⟩:=Sx.rSolve_spec (z:=r) F U (λ b T=>by
  obtain⟨k,E⟩:=qC.1 T;have:=(Sx.potB_at Q U E).1;have:=(vv h G b T).1;omega) (K9 h G R)
 have L:K=r:=Sx.best_uniq Q Z R;subst L;refine⟨f',?_⟩;have s:=xZ h;have hf':f'.length=(bl (cp g) (cp g).length).length:=Z.fl.trans (pm (uI _));obtain⟨I,_,_⟩:=jx h.ok;have hbl:=lE g;have O:ah Tryz.prog 80 [Sx.nD (cL g)] (.tup [aj K,aj f', .int 0]):=H;rw[o7];clear R Z U H Q;generalize cL g=N at*;generalize cp g=l at*;have hlk:=nh l l.length;have V:(bE l l.length).length=(bl l l.length).length:=by rw[bE,uC]
 refine kE Tryz.func30 ?_;intro q B X w0;refine ac kO (ae V) (aE J A O s) ?_;refine aq (λ(k:Nat)=>k<=(bl l l.length).length) (λ k=>[(6, .d (aj K)),(7, .d (aj f')),(10, .d (aj (bE l l.length))),(11, .ref 36 1 0 g.es.length g.es.length),(12, .int k)]) (λ k=>[(36, .row 1 ((fC g.es.length (bl l l.length) f' k).map D.int))]) (λ k=>(bl l l.length).length-k) 0 ?_ ?_ ?_
 ·exact uF _
 ·exact kN (ai @fC.eq_1 @yT.{0,0}) []
 ·intro k E;have Y:=BM g.es.length (bl l l.length) f' k;rcases uD k (bl l l.length).length with S|hge
  ·obtain⟨i,M⟩:=ak S;obtain⟨x,U⟩:=ak (l:=f') (k:=k) xA;obtain⟨q1,q2⟩:=oC (uA M);have p2:(bE l l.length)[k]? =some (i:Int):=by rw[bE,uJ,M];rfl
   obtain⟨y,hy⟩:=ak (l:=fC g.es.length (bl l l.length) f' k) (k:=i) xA;have C:fC g.es.length (bl l l.length) f' (k+1)=(fC g.es.length (bl l l.length) f' k).set i x:=by rw[fC,M,U];rfl
   refine ac kO (aQ p2 V U hy Y) aa ?_;refine⟨k+1,?_,kN (ai C @yW.{0,0}) [],?_⟩
   ·exact S
   ·omega
  ·obtain rfl:k=(bl l l.length).length:=xA;refine ac kO (ae V) aa ?_;exact⟨_,rfl,rfl,bZ (o:=36) rfl rfl (by simp[Y]) (by rw[uE (by simp[Y])]),ap rfl,trivial⟩
end Go.Proofs.YtjjbhjnpeenbkaaGreatDoor.Gr
