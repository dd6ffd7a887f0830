/- The reference's Solve, whole. -/
import Derived.Test.YtjjbhjnpeenbkaaGreatDoorSxZc
import Derived.Test.YtjjbhjnpeenbkaaGreatDoorSxA
set_option linter.unusedSimpArgs false
set_option linter.unusedVariables false
set_option maxHeartbeats 16000000
namespace Go.Proofs.YtjjbhjnpeenbkaaGreatDoor.Sx
open Go Go.PS Go.Proofs
set_option maxRecDepth 100000
attribute [local irreducible] Zad wpG Zaa Zah
def wtN (l:List Bd):Nat->List Int
 |0=>zeros l
 |k+1=>(wtN l k).set k ((l[k]?.getD (0,0,0,0)).2.2.2)
theorem Zl5 (l:List Bd):∀k,(wtN l k).length=l.length:=by
 intro k
 induction k with
 |zero=>simp[wtN,zeros]
 |succ k ih=>rw[wtN,yJ,ih]
theorem Zuz (l:List Bd):∀k,k<=l.length->∀j:Nat,at0 (wtN l k) j=if j<k then(l[j]?.getD (0,0,0,0)).2.2.2 else 0:=by
 intro k
 induction k with
 |zero=>intro _ j;rw[wtN,Zjk,if_neg (by omega)]
 |succ k ih=>
  intro hk j;rw[wtN,Zel _ _ _ _ (by omega)];by_cases c:j=k
  ·subst c;rw[if_pos ⟨rfl,by rw[Zl5];omega⟩,if_pos (by omega)]
  ·rw[if_neg (by omega),ih (by omega)];by_cases d:j<k
   ·rw[if_pos d,if_pos (by omega)]
   ·rw[if_neg d,if_neg (by omega)]
def ZdO (L:List RS)(n:Nat)(F:List Int):Int:=Zcm (Zam L (Za2 L n)) F 1099511627776 (cyC L n) (cyK L n)
def Zew (L:List RS)(n:Nat)(F:List Int):List Int:=Zbv (Zam L (Za2 L n)) F (ZdO L n F) (cyC L n) (cyK L n)
def ZgN (l:List Bd)(n:Nat):Nat->List Int->List Int
 |0,F=>F
 |k+1,F=>if ZfQ (rsL l F l.length) n then F else ZgN l n k (Zew (rsL l F l.length) n F)
structure FOk (n:Nat)(l:List Bd)(F:List Int):Prop where
 len:F.length=l.length
 pos:∀k:Nat,0<=at0 F k
 dv:∀v:Nat,v<n->Zcf l F v=0
section
variable {n:Nat}{l:List Bd}{F:List Int}
theorem ZEq (hb:BdsOk n l):FOk n l (wtN l l.length):=by
 have hw:∀(k:Nat) b,l[k]? =some b->at0 (wtN l l.length) k=b.2.2.2:=λ k b hk=>by
  rw[Zuz l l.length (uI _),if_pos (uB.1 hk).1,hk];rfl
 refine⟨Zl5 l _,λ k=>?_,λ v _=>?_⟩
 ·rw[Zuz l l.length (uI _)];split
  ·rename_i h;obtain⟨b,hbk⟩:=Zac h;have:=hb k b hbk;rw[hbk];dsimp only[Option.getD_some];omega
  ·exact qL _
 ·have:∀k,k<l.length->Zbq l (wtN l l.length) v k=0:=λ k hk=>by
   obtain⟨b,hbk⟩:=Zac hk;have h1:=hw k b hbk;have h2:=at0_at (r:=wtN l l.length) (i:=k) (by rw[Zl5];exact hk);rw[h1]at h2;simp[Zbq,hbk,h2]
  rw[Zcf,Ze9 (h:=λ _=>0) this,Zfa]
theorem FOk.push (hb:BdsOk n l)(h:FOk n l F)(hno:ZfQ (rsL l F l.length) n=false):FOk n l (Zew (rsL l F l.length) n F)/\Zds l F+1<=Zds l (Zew (rsL l F l.length) n F)/\1<=ZdO (rsL l F l.length) n F/\ZdO (rsL l F l.length) n F<=1099511627776:=by
 obtain⟨_,_,hC,_⟩:=ZmU hb hno;obtain⟨p1,p2,p3,p4,p5,hco,hga⟩:=hC;have hmem:∀(j:Nat) s,(rsL l F l.length)[j]? =some s->_:=λ j s h=>ZlJ (uA h)
 have hst:∀q,q<cyK (rsL l F l.length) n->∃(k:Nat) (b:Bd),l[k]? =some b/\(Zax (Zam (rsL l F l.length) (Za2 (rsL l F l.length) n)) (cyC (rsL l F l.length) n) q).2.2.1=k/\
   (((Zax (Zam (rsL l F l.length) (Za2 (rsL l F l.length) n)) (cyC (rsL l F l.length) n) q).2.2.2=false/\(Zax (Zam (rsL l F l.length) (Za2 (rsL l F l.length) n)) (cyC (rsL l F l.length) n) q).2.1=b.2.2.1)\/
    ((Zax (Zam (rsL l F l.length) (Za2 (rsL l F l.length) n)) (cyC (rsL l F l.length) n) q).2.2.2=true/\0<at0 F k/\(Zax (Zam (rsL l F l.length) (Za2 (rsL l F l.length) n)) (cyC (rsL l F l.length) n) q).2.1=-b.2.2.1)):=λ q hq=>by
  obtain⟨_,_,j,s,_,t2,_,t4⟩:=p5 q hq;obtain⟨k,b,hk,rfl|⟨hp,rfl⟩⟩:=hmem j s t2
  ·exact⟨k,b,hk,by rw[t4], .inl ⟨by rw[t4],by rw[t4]⟩⟩
  ·exact⟨k,b,hk,by rw[t4], .inr ⟨by rw[t4],hp,by rw[t4]⟩⟩
 have hm1:0<ZdO (rsL l F l.length) n F:=Zr4 (by decide) _ λ j hj hbk=>by
  obtain⟨k,b,_,e,⟨h1,_⟩|⟨_,h1,_⟩⟩:=hst j hj
  ·rw[h1]at hbk;cases hbk
  ·rw[e];exact h1
 have hml:=ZnC (Zam (rsL l F l.length) (Za2 (rsL l F l.length) n)) F 1099511627776 (cyC (rsL l F l.length) n) (cyK (rsL l F l.length) n);have hce:=Zwr (m:=ZdO (rsL l F l.length) n F) h.len hco (λ q hq=>by
  obtain⟨k,b,hk,e,h1⟩:=hst q hq;exact⟨k,b,hk,e,h1.imp id λ h=>⟨h.1,h.2.2⟩⟩) (cyK (rsL l F l.length) n) (uI _)
 have hsl:=Zop (m:=ZdO (rsL l F l.length) n F) hco h.len (Df hm1) _ (uI _);have hsd:=λ v:Int=>Ztw (m:=ZdO (rsL l F l.length) n F) hco h.len v _ (uI _)
 refine⟨⟨by rw[Zew,Zgd];exact h.len,λ k=>?_,λ v hv=>?_⟩,?_,by omega,hml.1⟩
 ·obtain⟨s1,s2⟩:=hsl k;by_cases c:∃j,j<cyK (rsL l F l.length) n/\((Zax (Zam (rsL l F l.length) (Za2 (rsL l F l.length) n)) (cyC (rsL l F l.length) n) j).2.2.2=true/\(Zax (Zam (rsL l F l.length) (Za2 (rsL l F l.length) n)) (cyC (rsL l F l.length) n) j).2.2.1=k)
  ·obtain⟨j,hj,hb1,he⟩:=c;have:=hml.2 j hj hb1;rw[he]at this;rw[Zew];have:ZdO (rsL l F l.length) n F<=at0 F k:=this;omega
  ·have:=s1 λ j hj hh=>c ⟨j,hj,hh⟩
   have:=h.pos k;rw[Zew];omega
 ·have:=hsd v;rw[Zew,this,p3,h.dv v hv];omega
 ·rw[Zew,hce];have:ZdO (rsL l F l.length) n F*1<=ZdO (rsL l F l.length) n F*Zar (λ q=>(Zax (Zam (rsL l F l.length) (Za2 (rsL l F l.length) n)) (cyC (rsL l F l.length) n) q).2.1) (cyK (rsL l F l.length) n):=jD hga (by omega);omega
theorem FOk.best (hg:nOk ((n:Int),l)=true)(h:FOk n l F)(hF:∀k:Nat,at0 F k<=1099511627776)(hno:ZfQ (rsL l F l.length) n=true):∃r,Zc7 ((n:Int),l) F=(r,true)/\Best n l r F:=by
 obtain⟨hb,hn,hl⟩:=bdsOk_of hg;obtain⟨d,hd⟩:=ZwM hb hno;have hp:PotB l F (λ v=>at0 d v):=λ k b hk=>by
  have hbk:=hb k b hk;obtain⟨m1,m2⟩:=ZBP (f:=F) hk;have h1:=hd _ m1;dsimp only at h1
  (try dsimp only)
  rw[show((b.1.toNat:Nat):Int)=b.1 by omega,show((b.2.1.toNat:Nat):Int)=b.2.1 by omega];refine⟨h1,λ hpos=>?_⟩;have h2:=hd _ (m2 hpos);dsimp only at h2;omega
 obtain⟨W,hW,hWl,hopt⟩:=Znz hb hn ((Zfv hb).2 hp);have hB:Best n l (Zet W) F:=⟨h.len,by simp[Zet,hWl],λ k=>⟨h.pos k,hF k⟩,h.dv,λ v hv=>by rw[Zpr hWl hv];exact hopt v hv⟩;exact⟨Zet W,ZvK hb hB,hB⟩
theorem ZmG (hb:BdsOk n l)(h:FOk n l F){x z:List Int}(hx:PotB l (zeros l) (λ v=>at0 x v))(hz:∀b,b∈l->1<=gap z b):Zds l F<=costB l x/\∀k:Nat,at0 F k<=costB l z:=by
 refine⟨Zqd hb h.len h.pos h.dv hx,λ k=>?_⟩;have hnn:∀k,k<l.length->at0 F k<=(match l[k]? with|some b=>at0 F k*gap z b|none=>0):=λ k hk=>by
  obtain⟨b,hbk⟩:=Zac hk;have:=hz b (uA hbk);have h2:=h.pos k;rw[hbk];dsimp only;have:at0 F k*1<=at0 F k*gap z b:=jD this h2;omega
 rw[Zk3 hb h.len h.dv z];rcases uC k l.length with hk|hk
 ·have:=Zid (g:=λ j=>if k=j then at0 F k else 0) (h:=λ k=>match l[k]? with|some b=>at0 F k*gap z b|none=>0) (n:=l.length) (λ j hj=>by
   have h3:=hnn j hj;have h4:=h.pos j
   (try dsimp only)
   split
   ·rename_i e;subst e;exact h3
   ·omega)
  rw[Zic,if_pos hk]at this;exact this
 ·have h5:=Zid (g:=λ _=>0) (h:=λ k=>match l[k]? with|some b=>at0 F k*gap z b|none=>0) (n:=l.length) (λ j hj=>zC (h.pos j) (hnn j hj));rw[Zfa]at h5;rw[at0,uK,uL (by rw[h.len];exact hk)];exact h5
end
theorem ZC2 {n:Nat}{l:List Bd}(hg:nOk ((n:Int),l)=true){x z:List Int}(hx:PotB l (zeros l) (λ v=>at0 x v))(h1:∀b,b∈l->1<=gap z b)(hC:costB l z<=1099511627776):
  ∀(k:Nat) (F:List Int),FOk n l F->costB l x-Zds l F<k->∃r,Zc7 ((n:Int),l) (ZgN l n k F)=(r,true)/\Best n l r (ZgN l n k F):=by
 obtain⟨hb,hn,hl⟩:=bdsOk_of hg;intro k
 induction k with
 |zero=>
  intro F hF hk;have:=ZmG hb hF hx h1;omega
 |succ k ih=>
  intro F hF hk;rw[ZgN];rcases hno:ZfQ (rsL l F l.length) n with _|_
  ·rw[if_neg (by decide)];obtain⟨p1,p2,_⟩:=hF.push hb hno;exact ih _ p1 (by omega)
  ·rw[if_pos rfl];have hc:=(ZmG hb hF hx h1).2;exact hF.best hg (λ k=>by have:=hc k;omega) hno
theorem rSolve_no {n:Nat}{l:List Bd}(hg:nOk ((n:Int),l)=true)(hp:¬∃p,PotB l (zeros l) p):Zaa Tryz.prog 80 [nD ((n:Int),l)] (.tup [.sl [], .sl [], .int 9]):=by
 have hv:=Zh8 ((n:Int),l);rw[hg]at hv;have hbd:=(bdsOk_of hg).1;have hl0:=Zjf ((n:Int),l) [] hg (by simp);have e:(Zc7 ((n:Int),l) []).2=false:=by
  cases h:(Zc7 ((n:Int),l) []).2 with
  |false=>rfl
  |true=>exact absurd ⟨_,ZsE.1 (ZyK (r:=(Zc7 ((n:Int),l) []).1) hbd (by rw[<-h]))⟩ hp
 rw[e]at hl0;refine kE Tryz.func80 ?_;intro hat B X w0;refine kw1 kO kc0 (kc2 hv hl0) ?_;exact⟨_,rfl,rfl,rfl,Zaf rfl,trivial⟩
theorem rSolve_spec {n:Nat}{l:List Bd}(hg:nOk ((n:Int),l)=true){x z:List Int}(hx:PotB l (zeros l) (λ v=>at0 x v))(h1:∀b,b∈l->1<=gap z b)(hC:costB l z<=1099511627776):
  ∃r f,Best n l r f/\Zaa Tryz.prog 80 [nD ((n:Int),l)] (.tup [Zab r,Zab f, .int 0]):=by
 obtain⟨hb,hn,hl⟩:=bdsOk_of hg;have hv:=Zh8 ((n:Int),l);rw[hg]at hv;have hl0:=Zjf ((n:Int),l) [] hg (by simp);have e0:(Zc7 ((n:Int),l) []).2=true:=by
  obtain⟨r,h,_⟩:=Zrv (f:=[]) hb ((Zfv hb).2 (ZsE.2 hx));rw[h]
 rw[e0]at hl0;have hw:=ZEq hb;obtain⟨T,hT⟩:∃T:Nat,T=(costB l x-Zds l (wtN l l.length)).toNat+1:=⟨_,rfl⟩;obtain⟨r,hr,hB⟩:=ZC2 hg hx h1 hC T (wtN l l.length) hw (by omega);refine⟨r,ZgN l n T (wtN l l.length),hB,?_⟩;have hle:=Zjf ((n:Int),l) (ZgN l n T (wtN l l.length)) hg (by rw[hB.fl];omega);rw[hr]at hle;have hzl:=hB.fl;generalize hZ:ZgN l n T (wtN l l.length)=Z at*;clear hr;refine kE Tryz.func80 ?_;intro hat B X w0;refine kw1 kO kc0 (kc2 hv hl0) ?_;refine Zae (λ(i:Nat)=>i<=l.length) (λ i=>[(1, .ptr 1 0 0 0),(7, .ref 30 1 0 l.length l.length),(8, .int i)]) (λ i=>[(1, .cells [.int n, .d (Zbx l)]),(30, .row 1 ((wtN l i).map D.int))]) (λ i=>l.length-i) 0 ?_ ?_ ?_
 ·exact uG _
 ·exact kN (kc3 @wtN.eq_1 @zeros.eq_1 @jJ.{0,0}) []
 ·intro i hi;have hwl:=Zl5 l i;rcases uC i l.length with hlt|hge
  ·obtain⟨b,hbk⟩:=Zac hlt;have e1:wtN l (i+1)=(wtN l i).set i b.2.2.2:=by rw[wtN,hbk];rfl
   have ho:=at0_at (r:=wtN l i) (i:=i) (by omega);refine kw kO (kc3 hbk hwl ho) kc0 ?_
   repeat' first|exact True.intro|refine Bn.mk ?_ ?_|intro hc
   refine⟨i+1,?_,eL [] _ _ (by refine⟨?_,?_⟩<;>(repeat' first|exact fmn|refine fmc ⟨(by first|rfl|(simp(disch:=omega) only[go_sem,simprocAttr,inL,e1,yR];first|done|omega|(congr 1;done))),?_⟩);done),?_⟩
   ·exact hlt
   ·omega
  ·obtain rfl:i=l.length:=by omega
   refine kw1 kO (kc1 hwl) kc0 ?_;refine Zae (λ(q:List Int×Nat)=>match q with|(F,k)=>FOk n l F/\costB l x-Zds l F<k/\ZgN l n k F=Z) (λ(F,k)=>[(1, .ptr 1 0 0 0),(7, .ref 30 1 0 l.length l.length)]) (λ(F,k)=>[(1, .cells [.int n, .d (Zbx l)]),(30, .row 1 (F.map D.int))]) (λ(F,k)=>k) (wtN l l.length,T) ?_ ?_ ?_
   ·exact⟨hw,by omega,hZ⟩
   ·exact kN kc0 []
   ·rintro⟨F,k⟩ ⟨i1,i2,i3⟩;dsimp only at i1 i2 i3|-;obtain⟨c2,c3⟩:=ZmG hb i1 hx h1;obtain⟨k,rfl⟩:∃j,k=j+1:=⟨k-1,by omega⟩;have hst:=ZBR n l F hg i1.len;have hcy:=ZBa n l F hg;have hrl:=Zoi l F l.length;rw[ZgN]at i3;rcases hno:ZfQ (rsL l F l.length) n with _|_<;>rw[hno]at i3 hcy
    ·rw[if_neg (by decide)]at i3;rw[if_neg (by decide),if_neg (by decide)]at hcy;obtain⟨p1,p2,p3,p4⟩:=i1.push hb hno;obtain⟨_,_,hClo,hlal⟩:=ZmU hb hno;obtain⟨_,hKn,_,_,q5,hco,_⟩:=hClo;have hmem:∀(j:Nat) s,(rsL l F l.length)[j]? =some s->_:=λ j s h=>ZlJ (uA h)
     have hFl:=i1.len;have hsl:=λ q hq=>Zop (m:=ZdO (rsL l F l.length) n F) hco i1.len (by omega) q hq
     have hsu:=λ q hq=>Zty (m:=ZdO (rsL l F l.length) n F) hco i1.len (by omega) q hq
     have hol:=Zqf (rsL l F l.length) n (cyK (rsL l F l.length) n);have hog:∀q,q<cyK (rsL l F l.length) n->(cyO (rsL l F l.length) n (cyK (rsL l F l.length) n))[q]? =some (at0 (Za2 (rsL l F l.length) n) (Zaj (Zam (rsL l F l.length) (Za2 (rsL l F l.length) n)) (cyC (rsL l F l.length) n) q)):=λ q hq=>by
      rw[cyO,uJ,qC hq];rfl
     have ePu:Zew (rsL l F l.length) n F=Zbv (Zam (rsL l F l.length) (Za2 (rsL l F l.length) n)) F (ZdO (rsL l F l.length) n F) (cyC (rsL l F l.length) n) (cyK (rsL l F l.length) n):=rfl;have eMo:ZdO (rsL l F l.length) n F=Zcm (Zam (rsL l F l.length) (Za2 (rsL l F l.length) n)) F 1099511627776 (cyC (rsL l F l.length) n) (cyK (rsL l F l.length) n):=rfl;have hmle:∀q,Zcm (Zam (rsL l F l.length) (Za2 (rsL l F l.length) n)) F 1099511627776 (cyC (rsL l F l.length) n) q<=1099511627776:=λ q=>(ZnC _ _ _ _ q).1
     generalize rsL l F l.length=L at*;generalize ZdO L n F=m at*;generalize Zam L (Za2 L n)=W at*;generalize cyC L n=c at*;generalize cyK L n=K at*;generalize cyO L n K=C at*
     repeat' first|refine ZbH rfl ?_|refine Za0 ?_|refine wR ?_|refine rcM [(1000,30),(2000,950)] (hst) rfl ?_|(refine Zoj [(2000,951)] (hcy) rfl rfl rfl rfl rfl rfl (ZbS rfl) ?_ ?_ ?_ ?_ rfl ?_;(· (repeat' first|exact fmn|refine fmc ⟨⟨nofun,λ h=>by first|rfl|(simp at h;done)⟩,?_⟩));(· (refine⟨rfl,?_,?_⟩<;>(repeat' first|exact fmn|refine fmc ⟨?_,?_⟩|exact trivial|exact Zm9 _|exact Zna _ (λ _=>rfl) _|(intro d hd c hc;simp[D.flat,D.cells]at*))));(· (repeat' first|exact trivial|refine⟨.inl rfl,?_⟩|refine⟨.inr ⟨_,rfl,rfl, .inr trivial⟩,?_⟩|refine⟨.inr ⟨_,rfl,(by simp(disch:=omega) only[go_sem,simprocAttr,hFl,Zan];done), .inr trivial⟩,?_⟩));(· (repeat' first|exact fmn|refine fmc ⟨rfl,?_⟩)))|(refine ZbM rfl rfl (λ hc=>?_) (λ hc=>?_)<;>try simp only[hcL]at hc)|(refine ZbL _ rfl rfl (λ hc=>?_) (λ hc=>?_)<;>(try simp only[hcL]at hc)<;>try omega)|simp(disch:=omega) only[go_sem,simprocAttr,hFl,Zan]|apply And.intro|omega|decide+kernel
     refine Zae (λ(q:Nat)=>q<=K) (λ q=>[(1, .ptr 1 0 0 0),(7, .ref 30 1 0 l.length l.length),(9, .ref 950 5 0 L.length L.length),(10, .ref 951 1 0 K K),(13, .int (Zcm W F 1099511627776 c q)),(14, .int q)]) (λ q=>[(1, .cells [.int n, .d (Zbx l)]),(30, .row 1 (F.map D.int)),(950, .row 5 (L.map rsD)),(951, .row 1 (C.map D.int))]) (λ q=>K-q) 0 ?_ ?_ ?_
     ·exact uG _
     ·exact kN (kc1 @Zcm.eq_1) []
     ·intro q hq;rcases uC q K with hql|hqg
      ·obtain⟨_,_,j,s,t1,t2,_,t4⟩:=q5 q hql;have hc:=hog q hql;rw[t1]at hc;have hjl:=(uB.1 t2).1;have e1:=Zlo W F 1099511627776 c q;rw[t4]at e1;dsimp only at e1;obtain⟨kb,b,hkb,hs⟩:=hmem j s t2;have hkl:=(uB.1 hkb).1;have gF:=at0_at (r:=F) (i:=kb) (by omega);rcases hs with rfl|⟨_,rfl⟩
       ·dsimp only at e1 t2;rw[if_neg (by decide)]at e1;refine kw1 kO (kc3 hc t2 hol) kc0 ?_;refine⟨q+1,?_,kN (kc1 e1) [],?_⟩
        ·exact hql
        ·omega
       ·dsimp only at e1 t2;rw[if_pos rfl]at e1;refine kw1 kO (kc6 hc t2 hol gF hFl @ZfZ) kc0 ?_;refine⟨q+1,?_,kN (kc1 e1) [],?_⟩
        ·exact hql
        ·omega
      ·obtain rfl:q=K:=by omega
       rw[<-eMo];refine kw1 kO (kc1 hol) kc0 ?_;refine Zae (λ(j:Nat)=>j<=q) (λ j=>[(1, .ptr 1 0 0 0),(7, .ref 30 1 0 l.length l.length),(9, .ref 950 5 0 L.length L.length),(10, .ref 951 1 0 q q),(13, .int m),(15, .int j)]) (λ j=>[(1, .cells [.int n, .d (Zbx l)]),(30, .row 1 ((Zbv W F m c j).map D.int)),(950, .row 5 (L.map rsD)),(951, .row 1 (C.map D.int))]) (λ j=>q-j) 0 ?_ ?_ ?_
       ·exact uG _
       ·exact kN (kc1 @Zbv.eq_1) []
       ·intro j hj;have hsll:=Zgd W F m c j;rcases uC j q with hjl|hjg
        ·obtain⟨_,_,i,s,t1,t2,_,t4⟩:=q5 j hjl;have hc:=hog j hjl;rw[t1]at hc;have hil:=(uB.1 t2).1;have e1:=Zki W F m c j;rw[t4]at e1;dsimp only at e1;obtain⟨kb,b,hkb,hs⟩:=hmem i s t2;have hkl:=(uB.1 hkb).1;have b1:=(hsl j hj kb).2;have b2:=(hsu j hj kb).2;have b3:=c3 kb;have b4:=i1.pos kb;generalize Zbv W F m c j=G at*;have gG:=at0_at (r:=G) (i:=kb) (by omega);rcases hs with rfl|⟨_,rfl⟩
         ·dsimp only at e1 t2;rw[if_neg (by decide),uK]at e1;refine kw1 kO (kc6 hc t2 hol gG hsll hFl) kc0 ?_;refine⟨j+1,?_,kN (kc2 e1 @yR.{0,0}) [],?_⟩
          ·exact hjl
          ·omega
         ·dsimp only at e1 t2;rw[if_pos rfl,uK,<-Cs]at e1;refine kw1 kO (kc6 hc t2 hol gG hsll hFl) kc0 ?_;refine⟨j+1,?_,kN (kc2 e1 @yR.{0,0}) [],?_⟩
          ·exact hjl
          ·omega
        ·obtain rfl:j=q:=by omega
         rw[<-ePu];refine kw1 kO (kc1 hol) kc0 ?_;refine⟨(Zew L n F,k),?_,kN kc0 [],?_⟩
         ·exact⟨p1,by dsimp only;omega,i3⟩
         ·dsimp only;omega
    ·rw[if_pos rfl]at i3;subst i3;rw[if_pos rfl,if_pos rfl]at hcy;have hFl:=i1.len;generalize rsL l F l.length=L at*
     repeat' first|refine ZbH rfl ?_|refine Za0 ?_|refine Zn5 14 rfl (λ _=>false) ZcE ?_|refine rcM [(1000,30),(2000,950)] (hst) rfl ?_|(refine Zoj [(2000,951)] (hcy) rfl rfl rfl rfl rfl rfl (ZbS rfl) ?_ ?_ ?_ ?_ rfl ?_;(· (repeat' first|exact fmn|refine fmc ⟨⟨nofun,λ h=>by first|rfl|(simp at h;done)⟩,?_⟩));(· (refine⟨rfl,?_,?_⟩<;>(repeat' first|exact fmn|refine fmc ⟨?_,?_⟩|exact trivial|exact Zm9 _|exact Zna _ (λ _=>rfl) _|(intro d hd c hc;simp[D.flat,D.cells]at*))));(· (repeat' first|exact trivial|refine⟨.inl rfl,?_⟩|refine⟨.inr ⟨_,rfl,rfl, .inr trivial⟩,?_⟩|refine⟨.inr ⟨_,rfl,(by simp(disch:=omega) only[go_sem,simprocAttr,hFl,Zan];done), .inr trivial⟩,?_⟩));(· (repeat' first|exact fmn|refine fmc ⟨rfl,?_⟩)))|(refine ZbM rfl rfl (λ hc=>?_) (λ hc=>?_)<;>try simp only[hcL]at hc)|(refine ZbL _ rfl rfl (λ hc=>?_) (λ hc=>?_)<;>(try simp only[hcL]at hc)<;>try omega)|simp(disch:=omega) only[go_sem,simprocAttr,hFl,Zan]|apply And.intro|omega|decide+kernel
     refine kR kc0 [] [(1, .ptr 1 0 0 0),(7, .ref 30 1 0 l.length l.length)] [(1, .cells [.int n, .d (Zbx l)]),(30, .row 1 (F.map D.int))] ?_;refine Zaq _ (Zc2 30 1 (F.map D.int) rfl (ZcS _ rfl) (by decide)) ?_;have htk:(F.map D.int).take l.length=F.map D.int:=uE (by simp[hFl]);refine kw1 kO (kc3 htk hFl @qN.{0}) (kc1 hle) ?_;exact⟨_,rfl,rfl,rfl,Zaf rfl,trivial⟩
theorem best_uniq {n:Nat}{l:List Bd}{a f a' f':List Int}(hb:BdsOk n l)(h:Best n l a f)(h':Best n l a' f'):a=a':=by
 have hx:=potB_zeros (best_pot hb h);have hx':=potB_zeros (best_pot hb h');have u1:=best_le hb h hx';have u2:=best_le hb h' hx;refine yS λ v=>?_
 rcases uC v n with hv|hv
 ·have a1:=u1.2 (by omega) (λ v hv=>(best_bd hb h' v).1) v hv;have a2:=u2.2 (by omega) (λ v hv=>(best_bd hb h v).1) v hv;rw[at0_at (by rw[h.rl];exact hv),at0_at (by rw[h'.rl];exact hv)]
  congr 1;omega
 ·rw[uL (by rw[h.rl];exact hv),uL (by rw[h'.rl];exact hv)]
end Go.Proofs.YtjjbhjnpeenbkaaGreatDoor.Sx
