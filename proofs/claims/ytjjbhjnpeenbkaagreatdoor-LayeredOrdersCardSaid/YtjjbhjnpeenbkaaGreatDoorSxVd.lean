/- The reference's Solve by the program's text. -/
import Derived.Test.YtjjbhjnpeenbkaaGreatDoorSxZd
import Derived.Test.YtjjbhjnpeenbkaaGreatDoorSxA
set_option linter.unusedSimpArgs false
set_option linter.unusedVariables false
set_option maxHeartbeats 16000000
namespace Go.Proofs.YtjjbhjnpeenbkaaGreatDoor.Sx
open Go Go.PS Go.Proofs
set_option maxRecDepth 100000
attribute [local irreducible] ao wpG ah ax
theorem SE {n:Nat}{l:List Bd}(V:nOk ((n:Int),l)=true){x z:List Int}(U:PotB l (zeros l) (λ v=>at0 x v))(X:∀b,b∈l->1<=gap z b)(O:costB l z<=1099511627776):
  ∀(k:Nat) (F:List Int),FOk n l F->costB l x-fS l F<k->∃r,jf ((n:Int),l) (mL l n k F)=(r,true)/\Best n l r (mL l n k F):=by
 obtain⟨Y,M,N⟩:=bdsOk_of V;intro k
 induction k with
 |zero=>
  intro F h S;have:=vJ Y h U X;omega
 |succ k R=>
  intro F h S;rw[mL];rcases Z:lH (rsL l F l.length) n with _|_
  ·rw[if_neg xC];obtain⟨Q,L,_⟩:=h.push Y Z;exact R _ Q xA
  ·rw[if_pos rfl];have T:=(vJ Y h U X).2;exact h.best V (λ k=>by have:=T k;omega) Z
theorem rSolve_spec {n:Nat}{l:List Bd}(H:nOk ((n:Int),l)=true){x z:List Int}(hx:PotB l (zeros l) (λ v=>at0 x v))(h1:∀b,b∈l->1<=gap z b)(hC:costB l z<=1099511627776):
  ∃r f,Best n l r f/\ah Tryz.prog 80 [nD ((n:Int),l)] (.tup [aj r,aj f, .int 0]):=by
 obtain⟨hb,hn,hl⟩:=bdsOk_of H;have hv:=p6 ((n:Int),l);rw[H]at hv;have hl0:=sL ((n:Int),l) [] H xB;have e0:(jf ((n:Int),l) []).2=true:=by
  obtain⟨r,h,_⟩:=E9 (f:=[]) hb ((lW hb).2 (potB_nil.2 hx));rw[h]
 rw[e0]at hl0;have hw:=Uc hb;obtain⟨T,hT⟩:∃T:Nat,T=(costB l x-fS l (wtN l l.length)).toNat+1:=⟨_,rfl⟩;obtain⟨r,hr,hB⟩:=SE H hx h1 hC T (wtN l l.length) hw xA;refine⟨r,mL l n T (wtN l l.length),hB,?_⟩;have hle:=sL ((n:Int),l) (mL l n T (wtN l l.length)) H (by rw[hB.fl];omega);rw[hr]at hle;have hzl:=hB.fl;generalize hZ:mL l n T (wtN l l.length)=Z at*;clear hr;refine kE Tryz.func80 ?_;intro hat B X w0;refine ac kO aa (ai hv hl0) ?_;refine aq (λ(i:Nat)=>i<=l.length) (λ i=>[(1, .ptr 1 0 0 0),(7, .ref 30 1 0 l.length l.length),(8, .int i)]) (λ i=>[(1, .cells [.int n, .d (cX l)]),(30, .row 1 ((wtN l i).map D.int))]) (λ i=>l.length-i) 0 ?_ ?_ ?_
 ·exact uF _
 ·exact kN (av @wtN.eq_1 @zeros.eq_1 @yT.{0,0}) []
 ·intro i hi;have hwl:=u6 l i;rcases uD i l.length with hlt|hge
  ·obtain⟨b,hbk⟩:=ak hlt;have U:wtN l (i+1)=(wtN l i).set i b.2.2.2:=by rw[wtN,hbk];rfl
   have ho:=aK (r:=wtN l i) (i:=i) xA;refine kw kO (av hbk hwl ho) aa ?_
   repeat' first|exact True.intro|refine Bn.mk ?_ ?_|intro Y
   refine⟨i+1,?_,eL [] _ _ (by refine⟨?_,?_⟩<;>(repeat' first|exact fmn|refine fmc ⟨(by first|rfl|(simp(disch:=omega) only[go_sem,simprocAttr,inL,U,yW];first|done|omega|(congr 1;done))),?_⟩);done),?_⟩
   ·exact hlt
   ·omega
  ·obtain rfl:i=l.length:=xA;refine ac kO (ae hwl) aa ?_;refine aq (λ(q:List Int×Nat)=>match q with|(F,k)=>FOk n l F/\costB l x-fS l F<k/\mL l n k F=Z) (λ(F,k)=>[(1, .ptr 1 0 0 0),(7, .ref 30 1 0 l.length l.length)]) (λ(F,k)=>[(1, .cells [.int n, .d (cX l)]),(30, .row 1 (F.map D.int))]) (λ(F,k)=>k) (wtN l l.length,T) ?_ ?_ ?_
   ·exact⟨hw,xA,hZ⟩
   ·exact kN aa []
   ·rintro⟨F,k⟩ ⟨M,i2,i3⟩;dsimp only at M i2 i3|-;obtain⟨c2,c3⟩:=vJ hb M hx h1;obtain⟨k,rfl⟩:∃j,k=j+1:=⟨k-1,xA⟩;have hst:=Rl n l F H M.len;have Q:=Qv n l F H;have hrl:=yp l F l.length;rw[mL]at i3;rcases A:lH (rsL l F l.length) n with _|_<;>rw[A]at i3 Q
    ·rw[if_neg xC]at i3;rw[if_neg xC,if_neg xC]at Q;obtain⟨p1,p2,p3,p4⟩:=M.push hb A;obtain⟨_,_,hClo,hlal⟩:=vY hb A;obtain⟨_,hKn,_,_,q5,hco,_⟩:=hClo;have J:∀(j:Nat) s,(rsL l F l.length)[j]? =some s->_:=λ j s h=>ul (uA h)
     have V:=M.len;have hsl:=λ q hq=>yx (m:=g9 (rsL l F l.length) n F) hco M.len xA q hq
     have hsu:=λ q hq=>HH (m:=g9 (rsL l F l.length) n F) hco M.len xA q hq
     have S:=DF (rsL l F l.length) n (cyK (rsL l F l.length) n);have hog:∀q,q<cyK (rsL l F l.length) n->(cyO (rsL l F l.length) n (cyK (rsL l F l.length) n))[q]? =some (at0 (bU (rsL l F l.length) n) (az (aB (rsL l F l.length) (bU (rsL l F l.length) n)) (cyC (rsL l F l.length) n) q)):=λ q hq=>by
      rw[cyO,uJ,yZ hq];rfl
     have ePu:jl (rsL l F l.length) n F=cG (aB (rsL l F l.length) (bU (rsL l F l.length) n)) F (g9 (rsL l F l.length) n F) (cyC (rsL l F l.length) n) (cyK (rsL l F l.length) n):=rfl;have eMo:g9 (rsL l F l.length) n F=d9 (aB (rsL l F l.length) (bU (rsL l F l.length) n)) F 1099511627776 (cyC (rsL l F l.length) n) (cyK (rsL l F l.length) n):=rfl;have hmle:∀q,d9 (aB (rsL l F l.length) (bU (rsL l F l.length) n)) F 1099511627776 (cyC (rsL l F l.length) n) q<=1099511627776:=λ q=>(xi _ _ _ _ q).1
     generalize rsL l F l.length=L at*;generalize g9 L n F=m at*;generalize aB L (bU L n)=W at*;generalize cyC L n=c at*;generalize cyK L n=K at*;generalize cyO L n K=C at*
     repeat' first|refine bt rfl ?_|refine aV ?_|refine wR ?_|refine rcM [(1000,30),(2000,950)] (hst) rfl ?_|(refine yq [(2000,951)] (Q) rfl rfl rfl rfl rfl rfl (cc rfl) ?_ ?_ ?_ ?_ rfl ?_;(· (repeat' first|exact fmn|refine fmc ⟨⟨nofun,λ h=>by first|rfl|(simp at h;done)⟩,?_⟩));(· (refine⟨rfl,?_,?_⟩<;>(repeat' first|exact fmn|refine fmc ⟨?_,?_⟩|exact trivial|exact wu _|exact wv _ (λ _=>rfl) _|(intro d hd c Y;simp[D.flat,D.cells]at*))));(· (repeat' first|exact trivial|refine⟨.inl rfl,?_⟩|refine⟨.inr ⟨_,rfl,rfl, .inr trivial⟩,?_⟩|refine⟨.inr ⟨_,rfl,(by simp(disch:=omega) only[go_sem,simprocAttr,V,aA];done), .inr trivial⟩,?_⟩));(· (repeat' first|exact fmn|refine fmc ⟨rfl,?_⟩)))|(refine bB rfl rfl (λ Y=>?_) (λ Y=>?_)<;>try simp only[hcL]at Y)|(refine bA _ rfl rfl (λ Y=>?_) (λ Y=>?_)<;>(try simp only[hcL]at Y)<;>try omega)|simp(disch:=omega) only[go_sem,simprocAttr,V,aA]|apply And.intro|omega|decide+kernel
     refine aq (λ(q:Nat)=>q<=K) (λ q=>[(1, .ptr 1 0 0 0),(7, .ref 30 1 0 l.length l.length),(9, .ref 950 5 0 L.length L.length),(10, .ref 951 1 0 K K),(13, .int (d9 W F 1099511627776 c q)),(14, .int q)]) (λ q=>[(1, .cells [.int n, .d (cX l)]),(30, .row 1 (F.map D.int)),(950, .row 5 (L.map rsD)),(951, .row 1 (C.map D.int))]) (λ q=>K-q) 0 ?_ ?_ ?_
     ·exact uF _
     ·exact kN (ae @d9.eq_1) []
     ·intro q hq;rcases uD q K with N|hqg
      ·obtain⟨_,_,j,s,t1,R,_,t4⟩:=q5 q N;have Y:=hog q N;rw[t1]at Y;have O:=(uB.1 R).1;have U:=tL W F 1099511627776 c q;rw[t4]at U;dsimp only at U;obtain⟨kb,b,E,hs⟩:=J j s R;have hkl:=(uB.1 E).1;have gF:=aK (r:=F) (i:=kb) xA;rcases hs with rfl|⟨_,rfl⟩
       ·dsimp only at U R;rw[if_neg xC]at U;refine ac kO (av Y R S) aa ?_;refine⟨q+1,?_,kN (ae U) [],?_⟩
        ·exact N
        ·omega
       ·dsimp only at U R;rw[if_pos rfl]at U;refine ac kO (bq Y R S gF V @lS) aa ?_;refine⟨q+1,?_,kN (ae U) [],?_⟩
        ·exact N
        ·omega
      ·obtain rfl:q=K:=xA;rw[<-eMo];refine ac kO (ae S) aa ?_;refine aq (λ(j:Nat)=>j<=q) (λ j=>[(1, .ptr 1 0 0 0),(7, .ref 30 1 0 l.length l.length),(9, .ref 950 5 0 L.length L.length),(10, .ref 951 1 0 q q),(13, .int m),(15, .int j)]) (λ j=>[(1, .cells [.int n, .d (cX l)]),(30, .row 1 ((cG W F m c j).map D.int)),(950, .row 5 (L.map rsD)),(951, .row 1 (C.map D.int))]) (λ j=>q-j) 0 ?_ ?_ ?_
       ·exact uF _
       ·exact kN (ae @cG.eq_1) []
       ·intro j hj;have I:=l9 W F m c j;rcases uD j q with O|hjg
        ·obtain⟨_,_,i,s,t1,R,_,t4⟩:=q5 j O;have Y:=hog j O;rw[t1]at Y;have hil:=(uB.1 R).1;have U:=sr W F m c j;rw[t4]at U;dsimp only at U;obtain⟨kb,b,E,hs⟩:=J i s R;have hkl:=(uB.1 E).1;have b1:=(hsl j hj kb).2;have b2:=(hsu j hj kb).2;have b3:=c3 kb;have b4:=M.pos kb;generalize cG W F m c j=G at*;have gG:=aK (r:=G) (i:=kb) xA;rcases hs with rfl|⟨_,rfl⟩
         ·dsimp only at U R;rw[if_neg xC,uK]at U;refine ac kO (bq Y R S gG I V) aa ?_;refine⟨j+1,?_,kN (ai U @yW.{0,0}) [],?_⟩
          ·exact O
          ·omega
         ·dsimp only at U R;rw[if_pos rfl,uK,<-Dj]at U;refine ac kO (bq Y R S gG I V) aa ?_;refine⟨j+1,?_,kN (ai U @yW.{0,0}) [],?_⟩
          ·exact O
          ·omega
        ·obtain rfl:j=q:=xA;rw[<-ePu];refine ac kO (ae S) aa ?_;refine⟨(jl L n F,k),?_,kN aa [],?_⟩
         ·exact⟨p1,by dsimp only;omega,i3⟩
         ·dsimp only;omega
    ·rw[if_pos rfl]at i3;subst i3;rw[if_pos rfl,if_pos rfl]at Q;have V:=M.len;generalize rsL l F l.length=L at*
     repeat' first|refine bt rfl ?_|refine aV ?_|refine xY 14 rfl (λ _=>false) ck ?_|refine rcM [(1000,30),(2000,950)] (hst) rfl ?_|(refine yq [(2000,951)] (Q) rfl rfl rfl rfl rfl rfl (cc rfl) ?_ ?_ ?_ ?_ rfl ?_;(· (repeat' first|exact fmn|refine fmc ⟨⟨nofun,λ h=>by first|rfl|(simp at h;done)⟩,?_⟩));(· (refine⟨rfl,?_,?_⟩<;>(repeat' first|exact fmn|refine fmc ⟨?_,?_⟩|exact trivial|exact wu _|exact wv _ (λ _=>rfl) _|(intro d hd c Y;simp[D.flat,D.cells]at*))));(· (repeat' first|exact trivial|refine⟨.inl rfl,?_⟩|refine⟨.inr ⟨_,rfl,rfl, .inr trivial⟩,?_⟩|refine⟨.inr ⟨_,rfl,(by simp(disch:=omega) only[go_sem,simprocAttr,V,aA];done), .inr trivial⟩,?_⟩));(· (repeat' first|exact fmn|refine fmc ⟨rfl,?_⟩)))|(refine bB rfl rfl (λ Y=>?_) (λ Y=>?_)<;>try simp only[hcL]at Y)|(refine bA _ rfl rfl (λ Y=>?_) (λ Y=>?_)<;>(try simp only[hcL]at Y)<;>try omega)|simp(disch:=omega) only[go_sem,simprocAttr,V,aA]|apply And.intro|omega|decide+kernel
     refine kR aa [] [(1, .ptr 1 0 0 0),(7, .ref 30 1 0 l.length l.length)] [(1, .cells [.int n, .d (cX l)]),(30, .row 1 (F.map D.int))] ?_;refine aC _ (fo 30 1 (F.map D.int) rfl (fa _ rfl) xC) ?_;have htk:(F.map D.int).take l.length=F.map D.int:=uE (by simp[V]);refine ac kO (av htk V @qD.{0}) (ae hle) ?_;exact⟨_,rfl,rfl,rfl,ap rfl,trivial⟩
theorem best_uniq {n:Nat}{l:List Bd}{a f U f':List Int}(Y:BdsOk n l)(h:Best n l a f)(X:Best n l U f'):a=U:=by
 have T:=potB_zeros (best_pot Y h);have V:=potB_zeros (best_pot Y X);have S:=pn Y h V;have R:=pn Y X T;refine yX λ v=>?_
 rcases uD v n with Z|Z
 ·have Q:=S.2 xA (λ v Z=>(best_bd Y X v).1) v Z;have O:=R.2 xA (λ v Z=>(best_bd Y h v).1) v Z;rw[aK (by rw[h.rl];exact Z),aK (by rw[X.rl];exact Z)]
  congr 1;omega
 ·rw[uL (by rw[h.rl];exact Z),uL (by rw[X.rl];exact Z)]
theorem rBalanced_spec {n:Nat}{l:List Bd}(S:nOk ((n:Int),l)=true){A f b M:List Int}(Y:Best n l A f)(U:Best n (l.map mirB) b M){z:List Int}(N:∀c,c∈l->1<=gap z c)(Q:costB l z<=1099511627776)
  (L:fromTo A 1099511627776)(T:fromTo b 1099511627776):ah Tryz.prog 232 [nD ((n:Int),l)] (.tup [aj (midF A b), .int 0]):=by
 obtain⟨V,hn,hl⟩:=bdsOk_of S;have Z:=mir_ok S;obtain⟨h,_,_⟩:=bdsOk_of Z;obtain⟨r,C,H,s⟩:=rSolve_spec S (potB_zeros (best_pot V Y)) N Q;obtain rfl:=best_uniq V Y H;obtain⟨r2,q,R,G⟩:=rSolve_spec (z:=lp n z) Z (potB_zeros (best_pot h U)) (λ c J=>by
  obtain⟨d,O,rfl⟩:=uR.1 J;obtain⟨k,I⟩:=qC.1 O;rw[(wC V I).2];exact N d O) (by rw[(vW V z).2];exact Q)
 obtain rfl:=best_uniq h U R;have F:ah Tryz.prog 258 [nD ((n:Int),l)] (nD ((n:Int),l.map mirB)):=Jm ((n:Int),l) (by dsimp only;omega);have E:=Jl A b (by rw[Y.rl,U.rl]) (by rw[Y.rl];omega) L T;generalize l.map mirB=l2 at*;refine kE Tryz.func232 ?_;intro K B X w0;refine ac kO aa (aE s F G E) ?_;exact⟨_,rfl,rfl,ap rfl,trivial⟩
end Go.Proofs.YtjjbhjnpeenbkaaGreatDoor.Sx
