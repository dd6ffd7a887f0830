/- Rules for code, and how a function's contract is proved. -/
import Derived.Test.YtjjbhjnpeenbkaaGreatDoorPSRegion3
set_option linter.unusedSimpArgs false
set_option linter.unusedVariables false
set_option maxHeartbeats 16000000
namespace Go.PS
open Go
def PW (P:Program)(B X:Nat->Prop)(w0:W0)(n:Nat)(c:Code)(Q:Exit->St->Prop)(S:St):Prop:=
 ∀a w T,Hold B X (w0.of P) n S a w T->c.wp P (λ e V U=>∃Y Z,Q e Y/\Hold B X (w0.of P) n Y V U Z) a w
def Ent (S Y:St):Prop:=∀(B X:Nat->Prop) (w0:W0) (n:Nat) (a:Act) (w:World) (V:Nat->Option Nat),Hold B X w0 n S a w V->∃Z,Hold B X w0 n Y a w Z
theorem Ent.refl (S:St):Ent S S:=λ _ _ _ _ _ _ Z h=>⟨Z,h⟩
theorem Ent.trans {S Y S'':St}(h:Ent S Y)(V:Ent Y S''):Ent S S'':=λ B X w0 n a w R T=>by
 obtain⟨Z,U⟩:=h B X w0 n a w R T;exact V B X w0 n a w Z U
def qj (next:St->Prop)(Q:Exit->St->Prop):Exit->St->Prop
 | .normal,S=>next S
 | .exit i,S=>Q (.exit i) S
 | .goto i,S=>Q (.goto i) S
 | .ret,S=>Q .ret S
 | .panic c,S=>Q (.panic c) S
 | .outgrown,S=>Q .outgrown S
def tc (id:Nat)(Q:Exit->St->Prop):Exit->St->Prop
 | .exit i,S=>if i=id then Q .normal S else Q (.exit i) S
 | .normal,S=>Q .normal S
 | .goto i,S=>Q (.goto i) S
 | .ret,S=>Q .ret S
 | .panic c,S=>Q (.panic c) S
 | .outgrown,S=>Q .outgrown S
section rules
variable {P:Program}{B X:Nat->Prop}{w0:W0}{n:Nat}{Q:Exit->St->Prop}{S:St}
theorem GC {c:Code}{Y:Exit->St->Prop}(h:PW P B X w0 n c Q S)(O:∀e S,Q e S->Y e S):PW P B X w0 n c Y S:=
 λ a w N R=>wp_mono (h a w N R) λ _ _ _ ⟨V,Z,U,T⟩=>⟨V,Z,O _ _ U,T⟩
theorem aC {c:Code}(Y:St)(T:Ent S Y)(h:PW P B X w0 n c Q Y):PW P B X w0 n c Q S:=λ a w R U=>by
 obtain⟨Z,V⟩:=T B X (w0.of P) n a w R U;exact h a w Z V
theorem PM (h:Q .normal S):PW P B X w0 n .skip Q S:=λ _ _ Y Z=>wp_skip ⟨S,Y,h,Z⟩
theorem aV (h:Q .ret S):PW P B X w0 n .ret Q S:=λ _ _ Y Z=>wp_ret ⟨S,Y,h,Z⟩
theorem PI {id:Nat}(h:Q (.exit id) S):PW P B X w0 n (.exit id) Q S:=λ _ _ Y Z=>wp_exit ⟨S,Y,h,Z⟩
theorem PL {x y:Code}(h:PW P B X w0 n x (qj (λ Y=>PW P B X w0 n y Q Y) Q) S):PW P B X w0 n (.seq x y) Q S:=λ a w N R=>by
 refine wp_seq (wp_mono (h a w N R) ?_);rintro e T O ⟨Y,Z,V,U⟩;cases e with
 |normal=>exact V T O Z U
 |_=>exact⟨Y,Z,V,U⟩
theorem bA {c:Operand}{x y:Code}(t:Bool)(R:S.ev c= .d (.sc (.bool t)))(O:aZ c=true)(U:t=true->PW P B X w0 n x Q S)(T:t=false->PW P B X w0 n y Q S):
  PW P B X w0 n (.cond c x y) Q S:=λ a w V h=>by
 have Y:=h.ev O;rw[R]at Y;exact wp_cond_split (ri Y) (λ Z=>U Z a w V h) (λ Z=>T Z a w V h)
theorem sf {c:Code}(t:Nat)(h:S.env t= .ab)(V:∀b:Bool,PW P B X w0 n c Q ⟨upd t (.bool b) S.env,S.objs⟩):PW P B X w0 n c Q S:=λ a w R Y=>by
 have Z:=Y.env t;rw[h]at Z;generalize T:a.tmps.getD t undef=v at Z;cases Z with
 |ab b=>
  refine V b a w R {Y with env:=λ u=>?_};simp only[upd];split
  ·rename_i U;rw[U,T];exact .d _ _ (.sc _ rfl)
  ·exact Y.env u
theorem PH {id:Nat}{c:Code}(h:PW P B X w0 n c (tc id Q) S):PW P B X w0 n (.block id c) Q S:=λ a w O R=>by
 refine wp_block (wp_mono (h a w O R) ?_);rintro e N M ⟨V,Z,Y,U⟩;cases e with
 |exit i=>
  simp only[tc,Exit.inBlock]at Y|-;split
  ·rename_i T;rw[if_pos T]at Y;exact⟨V,Z,Y,U⟩
  ·rename_i T;rw[if_neg T]at Y;exact⟨V,Z,Y,U⟩
 |_=>exact⟨V,Z,Y,U⟩
theorem GB {c:Code}{κ:Type}(I:κ->St)(m:κ->Nat)(k0:κ)(h0:Ent S (I k0))(round:∀k,PW P B X w0 n c (qj (λ s=>∃C,Ent s (I C)/\m C<m k) Q) (I k)):
  PW P B X w0 n (.loop c) Q S:=λ a w z hS=>by
 have key:∀N k a w z,m k=N->Hold B X (w0.of P) n (I k) a w z->∀b K M,∃e q w',(∃s J,Q e s/\Hold B X (w0.of P) n s q w' J)/\Arrives P (lone (b.at a (.code c:: .inLoop c::K)) M w) b K M e q w':=by
  intro N
  induction N using Nat.strongRecOn with
  |_ N ih=>
   intro k a w z hN hI b K M;obtain⟨e,V,U,⟨T,Z,O,h⟩,Y⟩:=round k a w z hI b (.inLoop c::K) M;cases e with
   |normal=>
    obtain⟨C,E,hlt⟩:=O;obtain⟨H,hI'⟩:=E B X (w0.of P) n V U Z h;obtain⟨F,G,A,L,R⟩:=ih (m C) (hN▸hlt) C V U H rfl hI' b K M;exact⟨F,G,A,L, .of_steps (Steps.trans Y (.one step_inLoop)) R⟩
   |exit id=>exact⟨_,V,U,⟨T,Z,O,h⟩, .pass (x:= .inLoop c) rfl (λ _ _=> .inl xB) Y⟩
   |goto l=>exact⟨_,V,U,⟨T,Z,O,h⟩, .pass (x:= .inLoop c) rfl (λ _ _=> .inl xB) Y⟩
   |ret=>exact⟨_,V,U,⟨T,Z,O,h⟩, .pass (x:= .inLoop c) rfl (λ _ _=> .inl xB) Y⟩
   |panic ch=>exact⟨_,V,U,⟨T,Z,O,h⟩, .pass (x:= .inLoop c) rfl (λ _ _=> .inl xB) Y⟩
   |outgrown=>exact⟨_,V,U,⟨T,Z,O,h⟩, .pass (x:= .inLoop c) rfl (λ _ _=> .inl xB) Y⟩
 obtain⟨J,hI⟩:=h0 B X (w0.of P) n a w z hS;intro b K M;obtain⟨e,q,w',O,Y⟩:=key _ k0 a w J rfl hI b K M;exact⟨e,q,w',O, .of_steps (.one step_loop) Y⟩
def mS (S:St)(L:List (Nat×PV))(M:List (Nat×Ob)):Prop:=Ent S ⟨cZ L,aL M⟩
theorem aq {c:Code}{κ:Type}(Z:κ->Prop)(L:κ->List (Nat×PV))(M:κ->List (Nat×Ob))(m:κ->Nat)(V:κ)(T:Z V)(R:mS S (L V) (M V))
  (round:∀k,Z k->PW P B X w0 n c (qj (λ U=>∃Y,Z Y/\mS U (L Y) (M Y)/\m Y<m k) Q) ⟨cZ (L k),aL (M k)⟩):PW P B X w0 n (.loop c) Q S:=
 GB (κ:={k:κ//Z k}) (λ k=>⟨cZ (L k.1),aL (M k.1)⟩) (λ k=>m k.1) ⟨V,T⟩ R λ k=>GC (round k.1 k.2) λ e U h=>by
  cases e with
  |normal=>obtain⟨Y,O,N,K⟩:=h;exact⟨⟨Y,O⟩,N,K⟩
  |_=>exact h
theorem dA (own:Nat->Bool)(ck:P.follows .mixedOrders=true){id:Nat}{ops:Array Oper}{Z:Bool}
  (h:ao P own ops.toList ops.toList S [] λ U R=>oL n ops Z R.reverse=true/\Q .normal U):PW P B X w0 n (.region id ops Z) Q S:=λ _ _ _ M=>
 QB rfl ck M h λ T _ ⟨O,N⟩=>⟨O,λ _ _ V Y=>⟨T,V,N,Y⟩⟩
end rules
theorem Rp {P:Program}{own:Nat->Bool}{all rest:List Oper}{S:St}{V:List cH}{K:St->List cH->Prop}{dst:Option Nat}{ty:TypeId}{pos:String}{af:Array Edge}{f:Operand}{as:Array Operand}{Y:Array TypeId}
  {g:FuncId}{Z:List D}{r:D}(h:ah P g Z r)(U:S.ev f= .d (.fn g []))(O:(as.toList.map S.ev).mapM (toD S.objs 4)=some Z)(R:(as.toList.map S.ev).flatMap (PV.refs S.objs 4)=[]\/r.flat 4=true)
  (T:ao P own all rest (S.put dst (.d r)) (((as.toList.map S.ev).flatMap (PV.refs S.objs 4),[])::V) K):
  ao P own all (⟨dst, .call ⟨.value f,as,Y⟩,ty,pos,af,none⟩::rest) S V K:=
 Ho r ⟨g,[],Z,U,O,by simpa using h,R⟩ T
theorem z7 {x:Int}(h:-9223372036854775808<=x)(Z:x<=9223372036854775807):IntKind.i64.wrap x=x:=by
 rw[IntKind.wrap_i64];omega
theorem FY {w:World}{ι:Nat->Option Nat}{X:Nat->Prop}{L:List Nat}{M:Nat->Option Nat}(R:∀o∈L,M o=ι o)(sub:∀b,ownX M X b->ownX ι X b):∀(k:Nat) (p:PV) (v:Value),p.only L k=true->PV.At w ι X p v->PV.At w M X p v:=by
 intro k
 induction k with
 |zero=>intro p v h;simp[PV.only]at h
 |succ k G=>
  intro p v h A;cases A with
  |d x v h=>exact .d x v (h.sub sub)
  |ref o s N len cap K b Z E F C z=>
   simp only[PV.only,yV,uG]at h;exact .ref o s N len cap K b ((R o h).trans Z) E F C z
  |ref0 o s N Y=>exact .ref0 o s N Y
  |ptr o s i c b Z=>
   simp only[PV.only,yV,uG]at h;exact .ptr o s i c b ((R o h).trans Z)
  |mp o b Z=>
   simp only[PV.only,yV,uG]at h;exact .mp o b ((R o h).trans Z)
  |ifp T o b Z=>
   simp only[PV.only,yV,uG]at h;exact .ifp T o b ((R o h).trans Z)
  |nilS=>exact .nilS
  |z0 Y=>exact .z0 Y
  |ag J arr U I V=>
   simp only[PV.only,yF]at h;exact .ag J arr U I λ j p v O H=>G p v (h p (uA O)) (V j p v O H)
  |tup J arr U V=>
   simp only[PV.only,yF]at h;exact .tup J arr U λ j p v O H=>G p v (h p (uA O)) (V j p v O H)
  |fn f J arr U V=>
   simp only[PV.only,yF]at h;exact .fn f J arr U λ j p v O H=>G p v (h p (uA O)) (V j p v O H)
  |unk v=>exact .unk v
  |und=>exact .und
  |ab b=>exact .ab b
theorem tn (L:List (Nat×PV))(t:Nat):cZ L t= .unk\/∃p,(t,p)∈L/\cZ L t=p:=by
 induction L with
 |nil=>exact .inl rfl
 |cons q L U=>
  obtain⟨i,v⟩:=q;by_cases h:t=i
  ·subst h;exact .inr ⟨v,xB,if_pos rfl⟩
  ·have Y:cZ ((i,v)::L) t=cZ L t:=if_neg h;rcases U with Z|⟨p,Z,V⟩
   ·exact .inl (Y.trans Z)
   ·exact .inr ⟨p,uP _ Z,Y.trans V⟩
theorem rS (L:List (Nat×Ob))(t:Nat):(aL L t= .dead/\t∉L.map (·.1))\/∃p,(t,p)∈L/\aL L t=p:=by
 induction L with
 |nil=>exact .inl ⟨rfl,xB⟩
 |cons q L R=>
  obtain⟨i,v⟩:=q;by_cases h:t=i
  ·subst h;exact .inr ⟨v,xB,if_pos rfl⟩
  ·have V:aL ((i,v)::L) t=aL L t:=if_neg h;rcases R with⟨Y,U⟩|⟨p,Y,T⟩
   ·exact .inl ⟨V.trans Y,by simp only[uS,yI];rintro(Z|Z);exact h Z;exact U Z⟩
   ·exact .inr ⟨p,uP _ Y,V.trans T⟩
def dT (ids:List Nat)(objs:Nat->Ob):Prop:=∀o,1000<=o->o<2000->o∉ids->objs o= .dead
theorem mF {ids:List Nat}{objs:Nat->Ob}{t:Nat}{O:Ob}(V:(decide (t<1000)||decide (2000<=t)||ids.contains t)=true)(h:dT ids objs):dT ids (upd t O objs):=by
 intro o U T Y;simp only[gI,uG,yV]at V
 have Z:o≠t:=λ R=>by subst R;rcases V with(h|h)|h;· omega
                     · omega
                     · exact Y h
 rw[upd,if_neg Z];exact h o U T Y
theorem mE {ids:List Nat}(M:List (Nat×Ob))(h:(M.all λ q=>decide (q.1<1000)||decide (2000<=q.1)||ids.contains q.1)=true):dT ids (aL M):=by
 intro o U T Z;refine pV M o (λ Y=>?_);obtain⟨q,V,rfl⟩:=uR.1 Y;simp only[yF,gI,uG,yV]at h;rcases h q V with(h|h)|h
 ·omega
 ·omega
 ·exact Z h
theorem mC {ids:List Nat}:dT ids (λ _=> .dead):=λ _ _ _ _=>rfl
theorem oO {ids:List Nat}{objs:Nat->Ob}{o sz:Nat}{l:List D}(h:dT ids objs):dT ids (nc o sz l objs):=λ i Z Y V=>by
 rw[mq,h i Z Y V];rfl
theorem dg {S:St}(t o sz:Nat)(H:S.env t= .nilS)(V:S.objs o= .dead):Ent S ⟨upd t (.ref o sz 0 0 0) S.env,upd o (.row sz []) S.objs⟩:=by
 intro B X w0 n a w G h;refine⟨G,h.size,h.defers,h.frame,h.hB,h.hXB,λ N M b J I L K=>?_,h.free,λ u=>?_,λ q=>?_,h.stay⟩
 ·have Z:∀Y,upd o (.row sz []) S.objs Y≠ .gone->S.objs Y≠ .gone:=by
   intro Y T;by_cases U:Y=o
   ·rw[U,V];simp
   ·simp only[upd,if_neg U]at T;exact T
  exact h.inj N M b (Z N J) (Z M I) L K
 ·by_cases O:u=t
  ·subst O;have:=h.env u;rw[H]at this;simp only[upd,if_true];generalize a.tmps.getD u undef=v at this;cases this;exact .ref0 _ _ _ _
  ·simp only[upd,if_neg O];exact h.env u
 ·by_cases R:q=o
  ·subst R;simp only[upd,if_true];exact .row0 _ (h.dead V)
  ·simp only[upd,if_neg R];exact h.objs q
theorem dm {S:St}(q i o sz:Nat){cs:List PV}(L:S.objs q= .cells cs)(hi:cs[i]? =some .nilS)(M:S.objs o= .dead):
  Ent S ⟨S.env,upd o (.row sz []) (upd q (.cells (cs.set i (.ref o sz 0 0 0))) S.objs)⟩:=by
 intro B X w0 n a w ι Z;have hqo:q≠o:=by rintro rfl;rw[L]at M;cases M
 refine⟨ι,Z.size,Z.defers,Z.frame,Z.hB,Z.hXB,λ A z b f1 f2 s e2=>?_,Z.free,Z.env,λ p=>?_,Z.stay⟩
 ·have Y:∀N,upd o (.row sz []) (upd q (.cells (cs.set i (.ref o sz 0 0 0))) S.objs) N≠ .gone->S.objs N≠ .gone:=by
   intro N F;by_cases G:N=o
   ·rw[G,M];simp
   ·by_cases U:N=q
    ·rw[U,L];simp
    ·simp only[upd,if_neg G,if_neg U]at F;exact F
  exact Z.inj A z b (Y A f1) (Y z f2) s e2
 ·by_cases J:p=o
  ·subst J;simp only[upd,if_true];exact .row0 _ (Z.dead M)
  ·by_cases O:p=q
   ·subst O;have E:=Z.objs p;rw[L]at E;simp only[upd,if_neg J,if_true];cases E with
    |cells _ b c T H hb I R h=>
     refine .cells _ b c T H hb (by simpa using I) R λ j x v V C=>?_
     rw[qF]at V;split at V
     ·rename_i K;subst K;split at V
      ·cases V;have:=h i _ v hi C;cases this;exact .ref0 _ _ _ _
      ·cases V
     ·exact h j x v V C
   ·simp only[upd,if_neg J,if_neg O];exact Z.objs p
theorem PV.frzL_eq (o sz:Nat)(l:List D):∀cs:List PV,PV.frzL o sz l cs=cs.map (PV.frz o sz l)
 |[]=>rfl
 |c::cs=>by rw[PV.frzL,PV.frzL_eq o sz l cs];rfl
theorem fo {S:St}(o sz:Nat)(l:List D)(h2:S.objs o= .row sz l)(hng:∀V,S.objs V≠ .gone)(hmv:o<1000\/2000<=o):
  Ent S ⟨wB o sz l S.env,upd o .dead (nc o sz l S.objs)⟩:=by
 intro B X w0 n a w H I;have hoo:=I.objs o;rw[h2]at hoo;have z:∀b,ownX (upd o none H) X b->ownX H X b:=by
  rintro b (O|⟨V,O⟩)
  ·exact .inl O
  ·by_cases R:V=o
   ·subst R;rw[upd,if_pos rfl]at O;cases O
   ·rw[upd,if_neg R]at O;exact .inr ⟨V,O⟩
 have hnb:∀b,H o=some b->¬ownX (upd o none H) X b:=by
  intro b Z;rintro(hx|⟨V,ho'⟩)
  ·exact(I.free o b Z).1 (I.hXB.1 b hx)
  ·by_cases R:V=o
   ·subst R;rw[upd,if_pos rfl]at ho';cases ho'
   ·rw[upd,if_neg R]at ho';exact R (I.inj V o b (hng V) (hng o) ho' Z)
 have cell:∀b i j d e,H o=some b->l[i]? =some d->d.cells[j]? =some e->∃c T v,w.heap[b]? =some (.cells c T (0,0))/\c[i*sz+j]? =some v/\v.oneCell'=true/\D.At w (ownX (upd o none H) X) e v:=by
  intro b i j d e Z K Y;cases hoo with
  |row0 _ h=>rw[h]at Z;cases Z
  |row _ _ b' c T hι' O M E N h=>
   rw[Z]at hι';cases hι';have hjs:j<sz:=by rw[<-E d (uA K)];exact(uB.1 Y).1
   have hil:=(uB.1 K).1;have hlt:i*sz+j<c.size:=by
    have:(i+1)*sz<=l.length*sz:=yR _ xA;rw[qN]at this;omega
   have hg:c[i*sz+j]? =some c[i*sz+j]:=yC hlt;exact⟨c,T,_,O,hg,N _ _ hg,(h i d j e _ K Y hg).sub z⟩
 have E:∀d∈l,d.cells.length=sz:=by
  cases hoo with
  |row0 _ h=>simp
  |row _ _ b' c T hι' O M E N h=>exact E
 have val:∀{p:PV} {v:Value},PV.At w H X p v->PV.At w (upd o none H) X (p.frz o sz l) v:=by
  intro p v hp
  induction hp with
  |d x v h=>simp only[PV.frz];exact .d x v (h.sub z)
  |mp V b Z=>
   simp only[PV.frz];by_cases R:V=o
   ·rw[if_pos R];exact .unk _
   ·rw[if_neg R];exact .mp V b ((if_neg R).trans Z)
  |ifp T V b Z=>
   simp only[PV.frz];by_cases R:V=o
   ·rw[if_pos R];exact .unk _
   ·rw[if_neg R];exact .ifp T V b ((if_neg R).trans Z)
  |ref V s U len cap capr b Z hl hc hm hs=>
   simp only[PV.frz];by_cases R:V=o
   ·subst R;rw[if_pos rfl];split
    ·rename_i L;obtain⟨rfl,hle⟩:=L;have C:((l.drop U).take len).length=len:=by simp;omega
     have key:∀(i:Nat) d (j:Nat) e,((l.drop U).take len)[i]? =some d->d.cells[j]? =some e->l[U+i]? =some d:=by
      intro i d j e K Y;rw[qS]at K;split at K
      ·rw[gC]at K;exact K
      ·cases K
     refine .d _ _ ?_;have:=D.At.sl (w:=w) (X:=ownX (upd V none H) X) ((l.drop U).take len) b (U*s) capr s (by rw[C];exact hl) hm (λ d hd=>E d (jS (gT hd)))
      (λ i j=>(w.cell? ⟨b,U*s+i*s+j,none⟩).getD undef) (λ i d j e K Y=>by
       obtain⟨c,T,v,g1,g2,g3,g4⟩:=cell b (U+i) j d e Z (key i d j e K Y) Y;have heq:U*s+i*s+j=(U+i)*s+j:=by rw[qN]
       have hc:w.cell? ⟨b,U*s+i*s+j,none⟩=some v:=by rw[fE g1,heq];exact g2
       rw[hc];exact⟨rfl,g3,hnb b Z⟩) (λ i d j e K Y=>by
       obtain⟨c,T,v,g1,g2,g3,g4⟩:=cell b (U+i) j d e Z (key i d j e K Y) Y;have heq:U*s+i*s+j=(U+i)*s+j:=by rw[qN]
       have hc:w.cell? ⟨b,U*s+i*s+j,none⟩=some v:=by rw[fE g1,heq];exact g2
       rw[hc];exact g4)
     rw[C]at this;exact this
    ·exact .unk _
   ·rw[if_neg R];exact .ref V s U len cap capr b (by rw[upd,if_neg R];exact Z) hl hc hm hs
  |ref0 V s U F=>
   simp only[PV.frz];by_cases R:V=o
   ·subst R;rw[if_pos rfl];split
    ·simp only[yQ];exact .d _ _ (.slnil _ _)
    ·exact .unk _
   ·rw[if_neg R];exact .ref0 V s U F
  |ptr V s i c b Z=>
   simp only[PV.frz];by_cases R:V=o
   ·subst R;rw[if_pos rfl];split
    ·rename_i L;obtain⟨rfl,hil⟩:=L;have hli:l[i]? =some l[i]:=uT hil;refine .d _ _ ?_;rw[hli];simp only[yN];refine .pt _ b _ (λ j=>(w.cell? ⟨b,i*s+c+j,none⟩).getD undef) (λ j e Y=>?_) (λ j e Y=>?_)
     ·rw[gC]at Y;obtain⟨ca,T,v,g1,g2,g3,g4⟩:=cell b i (c+j) _ e Z hli Y;have hc:w.cell? ⟨b,i*s+c+j,none⟩=some v:=by rw[fE g1,zW];exact g2
      rw[hc];exact⟨rfl,g3,hnb b Z⟩
     ·rw[gC]at Y;obtain⟨ca,T,v,g1,g2,g3,g4⟩:=cell b i (c+j) _ e Z hli Y;have hc:w.cell? ⟨b,i*s+c+j,none⟩=some v:=by rw[fE g1,zW];exact g2
      rw[hc];exact g4
    ·exact .unk _
   ·rw[if_neg R];exact .ptr V s i c b (by rw[upd,if_neg R];exact Z)
  |nilS=>simp only[PV.frz];exact .nilS
  |z0 F=>simp only[PV.frz];exact .z0 F
  |ag cs arr M N _ ih=>
   simp only[PV.frz,PV.frzL_eq];refine .ag _ arr (by simpa using M) N (λ j p v Y hv=>?_);rw[uJ]at Y;cases J:cs[j]? with
   |none=>rw[J]at Y;cases Y
   |some q=>rw[J]at Y;cases Y;exact ih j q v J hv
  |tup cs arr M _ ih=>
   simp only[PV.frz,PV.frzL_eq];refine .tup _ arr (by simpa using M) (λ j p v Y hv=>?_);rw[uJ]at Y;cases J:cs[j]? with
   |none=>rw[J]at Y;cases Y
   |some q=>rw[J]at Y;cases Y;exact ih j q v J hv
  |fn f cs arr M _ ih=>
   simp only[PV.frz,PV.frzL_eq];refine .fn f _ arr (by simpa using M) (λ j p v Y hv=>?_);rw[uJ]at Y;cases J:cs[j]? with
   |none=>rw[J]at Y;cases Y
   |some q=>rw[J]at Y;cases Y;exact ih j q v J hv
  |unk v=>simp only[PV.frz];exact .unk v
  |und=>simp only[PV.frz];exact .und
  |ab b=>simp only[PV.frz];exact .ab b
 have hιo:∀V b,upd o none H V=some b->V≠o/\H V=some b:=by
  intro V b O;by_cases R:V=o
  ·subst R;rw[upd,if_pos rfl]at O;cases O
  ·rw[upd,if_neg R]at O;exact⟨R,O⟩
 refine⟨upd o none H,I.size,I.defers,I.frame,I.hB,I.hXB,λ o1 o2 b _ _ e1 e2=>I.inj o1 o2 b (hng o1) (hng o2) (hιo o1 b e1).2 (hιo o2 b e2).2,λ V b O=>I.free V b (hιo V b O).2,λ u=>val (I.env u),λ q=>?_,λ V b O=>?_⟩
 ·by_cases J:q=o
  ·subst J;simp only[upd,if_true];exact .dead (if_pos rfl)
  ·simp only[upd,if_neg J,mq];have G:upd o none H q=H q:=if_neg J;have:=I.objs q;cases A:S.objs q with
   |dead=>rw[A]at this;cases this with|dead h=>exact .dead (G.trans h)
   |gone=>exact .gone
   |imap l'=>
    rw[A]at this;simp only[Ob.frz];cases this with
    |imap _ b es clock Z O R=>exact .imap _ b es clock (G.trans Z) O R
   |iter m k sn=>
    rw[A]at this;simp only[Ob.frz];cases this with
    |iter _ _ _ b bm Z hm O=>
     split
     ·exact .gone
     ·rename_i hmo;exact .iter m k sn b bm (G.trans Z) ((if_neg hmo).trans hm) O
   |cells cs=>
    rw[A]at this;cases this with
    |cells _ b c T Z O M N hat=>
     simp only[Ob.frz,PV.frzL_eq];refine .cells _ b c T (G.trans Z) O (by simpa using M) N (λ j p v Y hv=>?_);rw[uJ]at Y;cases hp:cs[j]? with
     |none=>rw[hp]at Y;cases Y
     |some p'=>rw[hp]at Y;cases Y;exact val (hat j p' v hp hv)
   |row s l'=>
    rw[A]at this;simp only[Ob.frz];cases this with
    |row0 _ h=>exact .row0 _ (G.trans h)
    |row _ _ b c T Z O M hcl' N hat=>exact .row _ _ b c T (G.trans Z) O M hcl' N λ i d j e v K Y hv=>(hat i d j e v K Y hv).sub z
 ·obtain⟨g1,g2,g3⟩:=I.stay V b O;refine⟨g1,?_,g3⟩;rw[upd,if_neg (λ R=>by subst R;omega)];exact g2
theorem fa (M:List (Nat×Ob))(h:(M.all λ q=>match q.2 with| .gone=>false|_=>true)=true):∀o,aL M o≠ .gone:=by
 intro o;rcases rS M o with⟨Z,_⟩|⟨p,Z,Y⟩
 ·rw[Z];simp
 ·rw[Y];simp only[yF]at h;have:=h (o,p) Z;intro V;rw[V]at this;cases this
def iX :Nat->List D->Nat->PV
 |_,[]=>λ _=> .unk
 |k,d::r=>upd k (.d d) (iX (k+1) r)
theorem JM (Z:List D):∀(k t:Nat),iX k Z t=if k<=t then(match Z[t-k]? with|some d=> .d d|none=> .unk)else .unk:=by
 induction Z with
 |nil=>intro k t;simp[iX]
 |cons d r V=>
  intro k t;simp only[iX,upd,V];by_cases h:t=k
  ·subst h;simp
  ·rw[if_neg h];by_cases Y:k<=t
   ·rw[if_pos Y,if_pos xA,show t-k=(t-(k+1))+1 by omega,jQ]
   ·rw[if_neg Y,if_neg xA]
def ve (P:Program)(S:St):ResultVar->D->Prop
 | .tmp t,d=>toD S.objs 4 (S.env t)=some d
 | .cell t T,d=>∃o s i c,S.env t= .ptr o s i c/\(tyi P T).ok=true/\(lj (tyi P T) (S.objs o) s i c).1/\toD S.objs 4 (lj (tyi P T) (S.objs o) s i c).2=some d
def vd (P:Program)(S:St):List ResultVar->List D->Prop
 |[],[]=>True
 |x::xs,d::Z=>ve P S x d/\vd P S xs Z
 |_,_=>False
def sP (P:Program)(Y:List ResultVar)(r:D)(S:St):Prop:=
 match Y with
 |[x]=>ve P S x r
 |xs=>∃Z,r= .tup Z/\vd P S xs Z
def AM (P:Program)(Z:List ResultVar)(r:D):Exit->St->Prop
 | .normal,S=>sP P Z r S
 | .ret,S=>sP P Z r S
 |_,_=>False
def lX (Z:Array Value):ResultVar->Sem Value
 | .tmp t=>pure (Z.getD t undef)
 | .cell c t=>do loadVar t (<-asAddr (Z.getD c undef))
theorem Ha {P:Program}{B X:Nat->Prop}{w0:W0}{w:World}{n:Nat}{S:St}{a:Act}{ι:Nat->Option Nat}(Z:Hold B X w0 n S a w ι){x:ResultVar}{d:D}(h:ve P S x d):
  ∃v,(lX a.tmps x).run P w= .ok v w/\D.At w X d v:=by
 cases x with
 |tmp t=>exact⟨_,rfl,zp Z (λ _ h=>h) 4 _ _ d h (Z.env t)⟩
 |cell t T=>
  obtain⟨o,s,i,c,L,U,N,M⟩:=h;have V:=Z.env t;rw[L]at V;obtain⟨v,R,K⟩:=tG (P:=P) Z V U N;refine⟨v,?_,zp Z (λ _ h=>h) 4 _ v d M K⟩;obtain⟨O,Y⟩:∃O,a.tmps.getD t undef=O:=⟨_,rfl⟩;rw[Y]at V R;cases V;simp only[Instr.loadAt,Instr.sureAddr,Sem.run_bind,Sem.run_pure,Result.andThen_ok]at R;simp only[lX,Y,asAddr,Sem.run_bind,Sem.run_pure,Result.andThen_ok,R]
theorem G8 {P:Program}{B X:Nat->Prop}{w0:W0}{w:World}{n:Nat}{S:St}{a:Act}{ι:Nat->Option Nat}(M:Hold B X w0 n S a w ι):∀(xs:List ResultVar) (Z:List D),vd P S xs Z->
  ∃vs:List Value,(xs.mapM (lX a.tmps)).run P w= .ok vs w/\vs.length=Z.length/\xs.length=Z.length/\
   ∀(j:Nat) d v,Z[j]? =some d->vs[j]? =some v->D.At w X d v:=by
 intro xs
 induction xs with
 |nil=>
  intro Z h;cases Z with
  |nil=>exact⟨[],rfl,rfl,rfl,xB⟩
  |cons _ _=>exact h.elim
 |cons x xs I=>
  intro Z h;cases Z with
  |nil=>exact h.elim
  |cons d Z=>
   obtain⟨O,N⟩:=h;obtain⟨v,K,J⟩:=Ha (P:=P) M O;obtain⟨vs,U,L,V,R⟩:=I Z N;refine⟨v::vs,?_,by simp[L],by simp[V],λ j e u Y T=>?_⟩
   ·simp only[kT,Sem.run_bind,K,Result.andThen_ok,U,Sem.run_pure]
   ·cases j with
    |zero=>simp at Y T;subst Y;subst T;exact J
    |succ j=>exact R j e u (by simpa using Y) (by simpa using T)
theorem QR {P:Program}{B X:Nat->Prop}{w0:W0}{w:World}{n:Nat}{S:St}{a:Act}{ι:Nat->Option Nat}(M:Hold B X w0 n S a w ι){fn:Func}{r:D}(h:sP P fn.results.toList r S):
  ∃v,(results fn a.tmps).run P w= .ok v w/\D.At w X r v:=by
 generalize J:fn.results.toList=G at h;have Z:∀(Y:List Value),(G.mapM (lX a.tmps)).run P w= .ok Y w->
   (results fn a.tmps).run P w= .ok (if F:Y.toArray.size=1 then Y.toArray[0]else .tuple Y.toArray) w:=by
  intro Y H;have:results fn a.tmps=(do let Y<-fn.results.mapM (lX a.tmps);pure (if F:Y.size=1 then Y[0]else .tuple Y)):=by
   unfold results
   first
    |rfl
    |(congr 1;done)
    |(congr 1;congr 1;funext x;cases x<;>rfl)
  rw[this,Array.mapM_eq_mapM_toList,J];simp only[Sem.run_bind,Sem.run_map,H,Result.andThen_ok,Sem.run_pure]
 match G,h,Z with
 |[],⟨U,K,V⟩,Z=>
  obtain⟨Y,T,R,O,N⟩:=G8 (P:=P) M [] U V;refine⟨_,Z Y T,?_⟩;subst K;rw[dif_neg (by simp;simp at O;omega)];exact .tup U Y.toArray (by simp[R]) (λ j d v L I=>N j d v L (by simpa using I))
 |[x],h,Z=>
  obtain⟨v,T,R⟩:=Ha (P:=P) M h;refine⟨v,?_,R⟩;have:=Z [v] (by simp only[kT,List.mapM_nil,Sem.run_bind,T,Result.andThen_ok,Sem.run_pure]);simpa using this
 |x::y::z,⟨U,K,V⟩,Z=>
  obtain⟨Y,T,R,O,N⟩:=G8 (P:=P) M _ U V;refine⟨_,Z Y T,?_⟩;subst K;rw[dif_neg (by simp at O|-;omega)];exact .tup U Y.toArray (by simp[R]) (λ j d v L I=>N j d v L (by simpa using I))
theorem Kv {P:Program}{f:FuncId}{fn:Func}{c:Code}{args:List D}{r:D}(L:P.funcs[f]? =some fn)(V:fn.body=some c)(C:(fn.name== "runtime.NumGoroutine")=false)(s:args.length<=fn.ntmps)
  (h:(∃w X vs,oa w X args vs)->∀B X w0,PW P B X w0 fn.ntmps c (AM P fn.results.toList r) ⟨iX 0 args,λ _=> .dead⟩):ah P f args r:=by
 refine⟨⟨fn,L,by rw[V];rfl,C⟩,λ w X vs hX Y O=>?_⟩;refine calls_of_wp L V ?_;have F:Hold (λ b=>b<w.heap.size) X ((⟨w,λ _=>none,[]⟩:W0).of P) fn.ntmps ⟨iX 0 args,λ _=> .dead⟩ {tmps:=vs++Array.replicate (fn.ntmps-vs.size) undef,defers:=[]} w (λ _=>none):=by
  refine⟨by simp;have:=Y.1;omega,rfl,⟨rfl,rfl,rfl,uI _,λ _ _=>rfl⟩,λ _ h=>h,⟨hX,O⟩,(λ _ _ _ _ _ h=>by cases h),(λ _ _ h=>by cases h),λ t=>?_,λ o=>Ob.At.dead rfl,λ _ _ h=>by cases h⟩;simp only[JM,uF,if_true,kC];cases M:args[t]? with
  |none=>exact .unk _
  |some d=>
   have U:t<vs.size:=by have:=(uB.1 M).1;have:=Y.1;omega
   have K:vs[t]? =some vs[t]:=yC U;have E:(vs++Array.replicate (fn.ntmps-vs.size) undef).getD t undef=vs[t]:=by
    rw[qU,Aa U,K];rfl
   simp only[E];refine .d _ _ ((Y.2 t d _ M K).sub ?_);rintro b (V|⟨o,V⟩)
   ·exact V
   ·cases V
 refine wp_mono (h ⟨w,X,vs,Y⟩ _ X ⟨w,λ _=>none,[]⟩ _ w _ F) ?_;rintro e N T ⟨I,z,R,Z⟩;have fin:sP P fn.results.toList r I->N.defers=[]/\∃v,(results fn N.tmps).run P T= .ok v T/\(∃J,Ending.returned v= .returned J/\D.At T X r J/\RowKit.Below w.heap.size w T):=by
  intro A;obtain⟨v,H,G⟩:=QR (P:=P) Z A;exact⟨Z.defers,v,H,v,rfl,G,⟨Z.frame.os,Z.frame.tape,Z.frame.output,Z.frame.size,Z.frame.keep⟩⟩
 cases e with
 |normal=>exact fin R
 |ret=>exact fin R
 |_=>exact R.elim
def mV :Nat->List PV->Nat->PV
 |_,[]=>λ _=> .unk
 |k,d::r=>upd k d (mV (k+1) r)
theorem JL (Z:List PV):∀(k t:Nat),mV k Z t=if k<=t then(match Z[t-k]? with|some d=>d|none=> .unk)else .unk:=by
 induction Z with
 |nil=>intro k t;simp[mV]
 |cons d r V=>
  intro k t;simp only[mV,upd,V];by_cases h:t=k
  ·subst h;simp
  ·rw[if_neg h];by_cases Y:k<=t
   ·rw[if_pos Y,if_pos xA,show t-k=(t-(k+1))+1 by omega,jQ]
   ·rw[if_neg Y,if_neg xA]
def sQ (P:Program)(S:St):ResultVar->PV->Prop
 | .tmp t,p=>S.env t=p
 | .cell t T,p=>∃o s i c,S.env t= .ptr o s i c/\(tyi P T).ok=true/\(lj (tyi P T) (S.objs o) s i c).1/\(lj (tyi P T) (S.objs o) s i c).2=p
def sO (P:Program)(S:St):List ResultVar->List PV->Prop
 |[],[]=>True
 |x::xs,d::Z=>sQ P S x d/\sO P S xs Z
 |_,_=>False
def sR (P:Program)(Y:List ResultVar)(r:PV)(S:St):Prop:=
 match Y with
 |[x]=>sQ P S x r
 |xs=>∃Z,r= .tup Z/\sO P S xs Z
def AN (P:Program)(Z:List ResultVar)(r:PV)(M:List (Nat×Ob)):Exit->St->Prop
 | .normal,S=>sR P Z r S/\∀q∈M,S.objs q.1=q.2
 | .ret,S=>sR P Z r S/\∀q∈M,S.objs q.1=q.2
 |_,_=>False
theorem G9 {P:Program}{B X:Nat->Prop}{w0:W0}{w:World}{n:Nat}{S:St}{a:Act}{ι:Nat->Option Nat}(V:Hold B X w0 n S a w ι){x:ResultVar}{d:PV}(h:sQ P S x d):
  ∃v,(lX a.tmps x).run P w= .ok v w/\PV.At w ι X d v:=by
 cases x with
 |tmp t=>exact⟨_,rfl,by have:=V.env t;rw[h]at this;exact this⟩
 |cell t T=>
  obtain⟨o,s,i,c,M,U,N,rfl⟩:=h;have Y:=V.env t;rw[M]at Y;obtain⟨v,R,L⟩:=tG (P:=P) V Y U N;refine⟨v,?_,L⟩;obtain⟨O,Z⟩:∃O,a.tmps.getD t undef=O:=⟨_,rfl⟩;rw[Z]at Y R;cases Y;simp only[Instr.loadAt,Instr.sureAddr,Sem.run_bind,Sem.run_pure,Result.andThen_ok]at R;simp only[lX,Z,asAddr,Sem.run_bind,Sem.run_pure,Result.andThen_ok,R]
theorem G7 {P:Program}{B X:Nat->Prop}{w0:W0}{w:World}{n:Nat}{S:St}{a:Act}{ι:Nat->Option Nat}(M:Hold B X w0 n S a w ι):∀(xs:List ResultVar) (Z:List PV),sO P S xs Z->
  ∃vs:List Value,(xs.mapM (lX a.tmps)).run P w= .ok vs w/\vs.length=Z.length/\xs.length=Z.length/\
   ∀(j:Nat) d v,Z[j]? =some d->vs[j]? =some v->PV.At w ι X d v:=by
 intro xs
 induction xs with
 |nil=>
  intro Z h;cases Z with
  |nil=>exact⟨[],rfl,rfl,rfl,xB⟩
  |cons _ _=>exact h.elim
 |cons x xs I=>
  intro Z h;cases Z with
  |nil=>exact h.elim
  |cons d Z=>
   obtain⟨O,N⟩:=h;obtain⟨v,K,J⟩:=G9 (P:=P) M O;obtain⟨vs,U,L,V,R⟩:=I Z N;refine⟨v::vs,?_,by simp[L],by simp[V],λ j e u Y T=>?_⟩
   ·simp only[kT,Sem.run_bind,K,Result.andThen_ok,U,Sem.run_pure]
   ·cases j with
    |zero=>simp at Y T;subst Y;subst T;exact J
    |succ j=>exact R j e u (by simpa using Y) (by simpa using T)
theorem QS {P:Program}{B X:Nat->Prop}{w0:W0}{w:World}{n:Nat}{S:St}{a:Act}{ι:Nat->Option Nat}(M:Hold B X w0 n S a w ι){fn:Func}{r:PV}(h:sR P fn.results.toList r S):
  ∃v,(results fn a.tmps).run P w= .ok v w/\PV.At w ι X r v:=by
 generalize J:fn.results.toList=G at h;have Z:∀(Y:List Value),(G.mapM (lX a.tmps)).run P w= .ok Y w->
   (results fn a.tmps).run P w= .ok (if F:Y.toArray.size=1 then Y.toArray[0]else .tuple Y.toArray) w:=by
  intro Y H;have:results fn a.tmps=(do let Y<-fn.results.mapM (lX a.tmps);pure (if F:Y.size=1 then Y[0]else .tuple Y)):=by
   unfold results
   first
    |rfl
    |(congr 1;done)
    |(congr 1;congr 1;funext x;cases x<;>rfl)
  rw[this,Array.mapM_eq_mapM_toList,J];simp only[Sem.run_bind,Sem.run_map,H,Result.andThen_ok,Sem.run_pure]
 match G,h,Z with
 |[],⟨U,K,V⟩,Z=>
  obtain⟨Y,T,R,O,N⟩:=G7 (P:=P) M [] U V;refine⟨_,Z Y T,?_⟩;subst K;rw[dif_neg (by simp;simp at O;omega)];exact .tup U Y.toArray (by simp[R]) (λ j d v L I=>N j d v L (by simpa using I))
 |[x],h,Z=>
  obtain⟨v,T,R⟩:=G9 (P:=P) M h;refine⟨v,?_,R⟩;have:=Z [v] (by simp only[kT,List.mapM_nil,Sem.run_bind,T,Result.andThen_ok,Sem.run_pure]);simpa using this
 |x::y::z,⟨U,K,V⟩,Z=>
  obtain⟨Y,T,R,O,N⟩:=G7 (P:=P) M _ U V;refine⟨_,Z Y T,?_⟩;subst K;rw[dif_neg (by simp at O|-;omega)];exact .tup U Y.toArray (by simp[R]) (λ j d v L I=>N j d v L (by simpa using I))
theorem OE {w:World}{ι:Nat->Option Nat}{X:Nat->Prop}{L:List Nat}{M:Nat->Option Nat}(Z:∀o∈L,M o=ι o)(sub:∀b,ownX M X b->ownX ι X b){o:Nat}{F:Ob}(K:o∈L)
  (U:F.only L=true)(h:Ob.At w ι X o F):Ob.At w M X o F:=by
 cases h with
 |dead H=>exact .dead ((Z o K).trans H)
 |gone=>exact .gone
 |cells C b c T Y O N V R=>
  simp only[Ob.only,yF]at U;exact .cells C b c T ((Z o K).trans Y) O N V λ j p v J G=>FY Z sub 4 p v (U p (uA J)) (R j p v J G)
 |row0 s H=>exact .row0 s ((Z o K).trans H)
 |row s l b c T Y O N I V R=>exact .row s l b c T ((Z o K).trans Y) O N I V λ i d j e v q J G=>(R i d j e v q J G).sub sub
 |imap l b A clock Y O z=>exact .imap l b A clock ((Z o K).trans Y) O z
 |iter m k sn b E Y hm O=>
  simp only[Ob.only,yV,uG]at U;exact .iter m k sn b E ((Z o K).trans Y) ((Z m U).trans hm) O
theorem CY {P:Program}{f:FuncId}{fn:Func}{c:Code}{args:List PV}{M R:List (Nat×Ob)}{r:PV}(hf:P.funcs[f]? =some fn)(O:fn.body=some c)(hn:(fn.name== "runtime.NumGoroutine")=false)(hl:args.length<=fn.ntmps)
  (V:R.map (·.1)=M.map (·.1))(hnd:(M.map (·.1)).Nodup)(hro:r.only (M.map (·.1)) 4=true)(C:(R.all λ q=>q.2.only (M.map (·.1)))=true)
  (I:(M.all λ q=>(match q.2 with| .dead=>true|_=>false)||(decide (1000<=q.1)&&decide (q.1<2000)))=true)
  (h:∀B X w0,PW P B X w0 fn.ntmps c (AN P fn.results.toList r R) ⟨mV 0 args,aL M⟩):ax P f args M r R:=by
 refine⟨⟨fn,hf,by rw[O];rfl,hn⟩,λ w F X vs hX hinj K hsz hat z A G=>?_⟩;refine calls_of_wp hf O ?_;have hS:Hold (λ b=>b<w.heap.size/\∀o,F o≠some b) X ((⟨w,F,[]⟩:W0).of P) fn.ntmps ⟨mV 0 args,aL M⟩ {tmps:=vs++Array.replicate (fn.ntmps-vs.size) undef,defers:=[]} w F:=by
  refine⟨by simp;omega,rfl,⟨rfl,rfl,rfl,uI _,λ _ _=>rfl⟩,λ _ h=>h.1,⟨hX,λ q T=>⟨⟨(G q T).1,λ o U=>(G q T).2.1 (.inr ⟨o,U⟩)⟩,λ hx=>(G q T).2.1 (.inl hx),(G q T).2.2⟩⟩,hinj,λ o b U=>⟨λ hB=>hB.2 o U,K o b U⟩,λ t=>?_,z,λ o b U=>?_⟩
  ·simp only[JL,uF,if_true,kC];cases hd:args[t]? with
   |none=>exact .unk _
   |some d=>
    have K:t<vs.size:=by have:=(uB.1 hd).1;omega
    have hv:vs[t]? =some vs[t]:=yC K;have hg:(vs++Array.replicate (fn.ntmps-vs.size) undef).getD t undef=vs[t]:=by
     rw[qU,Aa K,hv];rfl
    simp only[hg];exact hat t d _ hd hv
  ·refine⟨?_,U,rfl⟩;have U:F o=some b:=U;obtain⟨q,T,rfl⟩:=uR.1 (A o b U);simp only[yF,gI,uN,uG]at I;rcases I q T with h|h
   ·have hd:q.2= .dead:=by cases hq2:q.2<;>rw[hq2]at h<;>simp at h
    have:=z q.1;rw[oK M hnd q T,hd]at this;cases this with|dead h=>rw[h]at U;cases U
   ·exact h
 refine wp_mono (h _ X ⟨w,F,[]⟩ _ w _ hS) ?_;rintro e a' H ⟨S',N,T,Z⟩;have fin:(sR P fn.results.toList r S'/\∀q∈R,S'.objs q.1=q.2)->a'.defers=[]/\∃v,(results fn a'.tmps).run P H= .ok v H/\
   (∃v' Y,Ending.returned v= .returned v'/\PV.At H Y X r v'/\(∀o,Ob.At H Y X o (aL R o))/\(∀o b,Y o=some b->o∈R.map (·.1))/\
    (∀o L b,aL R o≠ .gone->aL R L≠ .gone->Y o=some b->Y L=some b->o=L)/\(∀o b,Y o=some b->¬X b/\((∃L,F L=some b)\/w.heap.size<=b)/\b<H.heap.size)/\
    H.os=w.os/\H.tape=w.tape/\H.output=w.output/\w.heap.size<=H.heap.size/\
    (∀b,b<w.heap.size->(∀o,F o≠some b)->H.heap[b]? =w.heap[b]?)/\
    (∀o b,F o=some b->Y o=some b/\bsz H b=bsz w b)):=by
  rintro⟨hr,hM⟩;obtain⟨v,h1,h2⟩:=QS (P:=P) Z hr;have s:∀o b,(if o∈M.map (·.1)then N o else none)=some b->o∈M.map (·.1)/\N o=some b:=by
   intro o b h;split at h
   ·rename_i hm;exact⟨hm,h⟩
   ·cases h
  have sub:∀b,ownX (λ o=>if o∈M.map (·.1)then N o else none) X b->ownX N X b:=by
   rintro b (O|⟨o,O⟩)
   ·exact .inl O
   ·exact .inr ⟨o,(s o b O).2⟩
  have hκ:∀o∈M.map (·.1),(λ o=>if o∈M.map (·.1)then N o else none) o=N o:=λ o U=>if_pos U
  have E:∀o∈M.map (·.1),S'.objs o=aL R o:=by
   intro o U;have J:o∈R.map (·.1):=by rw[V];exact U
   obtain⟨q,T,rfl⟩:=uR.1 J;rw[oK R (by rw[V];exact hnd) q T,hM q T]
  refine⟨Z.defers,v,h1,v,λ o=>if o∈M.map (·.1)then N o else none,rfl,FY hκ sub 4 r v hro h2,λ o=>?_,λ o b O=>by rw[V];exact(s o b O).1,
   λ o L b f f' e e'=>Z.inj o L b (by rw[E o (s o b e).1];exact f) (by rw[E L (s L b e').1];exact f') (s o b e).2 (s L b e').2,λ o b O=>?_,Z.frame.os,Z.frame.tape,Z.frame.output,Z.frame.size,λ b O hn=>Z.frame.keep b ⟨O,hn⟩,λ o b O=>?_⟩
  ·by_cases U:o∈M.map (·.1)
   ·have J:o∈R.map (·.1):=by rw[V];exact U
    obtain⟨q,T,rfl⟩:=uR.1 J;rw[oK R (by rw[V];exact hnd) q T];simp only[yF]at C;have:=Z.objs q.1;rw[hM q T]at this;exact OE hκ sub U (C q T) this
   ·rw[pV R o (by rw[V];exact U)];exact .dead (if_neg U)
  ·obtain⟨g1,g2⟩:=s o b O;obtain⟨f1,f2⟩:=Z.free o b g2;refine⟨λ hx=>f1 (hX b hx),?_,f2⟩;by_cases K:b<w.heap.size
   ·left
    by_cases hex:∃L,F L=some b
    ·exact hex
    ·exact absurd ⟨K,λ L J=>hex ⟨L,J⟩⟩ f1
   ·exact .inr xA
  ·obtain⟨g1,g2,g3⟩:=Z.stay o b O;exact⟨(if_pos (A o b O)).trans g2,g3⟩
 cases e with
 |normal=>exact fin T
 |ret=>exact fin T
 |_=>exact T.elim
def xt :List Nat->Bool
 |[]=>true
 |a::r=> !(r.any λ b=>Nat.beq a b)&&xt r
theorem cc {l:List Nat}(h:xt l=true):l.Nodup:=by
 induction l with
 |nil=>exact zL
 |cons a r Y=>
  simp only[xt,uN,yL,qH]at h;refine qI.2 ⟨λ Z=>h.1 a Z xB,Y h.2⟩
def gOf :List (Nat×Nat)->Nat->Nat
 |[],i=>i
 |(a,b)::r,i=>if i=a then b else gOf r i
theorem Hr {P:Program}{own:Nat->Bool}{all rest:List Oper}{S:St}{H:List cH}{K:St->List cH->Prop}{dst:Option Nat}{ty:TypeId}{pos:String}{af:Array Edge}{f:Operand}{as:Array Operand}{I:Array TypeId}
  (σ:List (Nat×Nat)){h:FuncId}{caps args:List PV}{M Z:List (Nat×Ob)}{r:PV}(G:ax P h args M r Z)(F:m6 (S.ev f)=some (h,caps))
  (V:Z.map (·.1)=M.map (·.1))(O:(args.all (PV.only (M.map (·.1)) 4))=true)(R:(M.all λ q=>q.2.only (M.map (·.1)))=true)
  (J:r.only (M.map (·.1)) 4=true)(Y:(Z.all λ q=>q.2.only (M.map (·.1)))=true)(N:(M.map λ q=>gOf σ q.1).Nodup)
  (U:∀q∈M,q.2≠ .gone/\(2000<=q.1->q.2= .dead))
  (C:ku S.objs (gOf σ) False (as.toList.map S.ev++caps) args)(T:∀q∈M,S.objs (gOf σ q.1)=q.2.ren (gOf σ))
  (E:ao P own all rest (S.app dst ⟨r.ren (gOf σ),et (gOf σ) Z,(as.toList.map S.ev++caps).flatMap (PV.refs S.objs 4)⟩) (((as.toList.map S.ev++caps).flatMap (PV.refs S.objs 4),(et (gOf σ) Z).map (·.1))::H) K):
  ao P own all (⟨dst, .call ⟨.value f,as,I⟩,ty,pos,af,none⟩::rest) S H K:=
 Hq _ ⟨⟨h,caps,args,M,Z,r,gOf σ,False,F,C,G,V,O,R,J,Y,N,T,λ q L=>(U q L).2,λ q L=>(U q L).1,λ h=>h.elim,rfl⟩⟩ E
theorem yq {P:Program}{own:Nat->Bool}{all rest:List Oper}{S:St}{E:List cH}{K:St->List cH->Prop}{dst:Option Nat}{ty:TypeId}{pos:String}{af:Array Edge}{f:Operand}{as:Array Operand}{F:Array TypeId}
  (σ:List (Nat×Nat)){h:FuncId}{caps args:List PV}{M Z:List (Nat×Ob)}{r:PV}(C:ax P h args M r Z)(A:m6 (S.ev f)=some (h,caps))
  (V:Z.map (·.1)=M.map (·.1))(N:(args.all (PV.only (M.map (·.1)) 4))=true)(O:(M.all λ q=>q.2.only (M.map (·.1)))=true)
  (H:r.only (M.map (·.1)) 4=true)(Y:(Z.all λ q=>q.2.only (M.map (·.1)))=true)(J:(M.map λ q=>gOf σ q.1).Nodup)
  (U:∀q∈M,q.2≠ .gone/\(2000<=q.1->q.2= .dead))(L:sK r M Z)
  (G:ku S.objs (gOf σ) True (as.toList.map S.ev++caps) args)(T:∀q∈M,S.objs (gOf σ q.1)=q.2.ren (gOf σ))
  (R:((as.toList.map S.ev++caps).all λ x=>(x.refs S.objs 4).all λ o=> !(M.map λ q=>gOf σ q.1).contains o)=true)
  (z:ao P own all rest (S.app dst ⟨r.ren (gOf σ),et (gOf σ) Z,(as.toList.map S.ev++caps).flatMap (PV.refs S.objs 4)⟩) (((as.toList.map S.ev++caps).flatMap (PV.refs S.objs 4),(et (gOf σ) Z).map (·.1))::E) K):
  ao P own all (⟨dst, .call ⟨.value f,as,F⟩,ty,pos,af,none⟩::rest) S E K:=
 Hq _ ⟨⟨h,caps,args,M,Z,r,gOf σ,True,A,G,C,V,N,O,H,Y,J,T,λ q I=>(U q I).2,λ q I=>(U q I).1,λ _=>⟨L,λ x G o s=>by
  simp only[yF,yV,yL,qJ]at R;exact R x G o s⟩,rfl⟩⟩ z
theorem wb {S:St}(σ:List (Nat×Nat))(L:List (Nat×PV))(M:List (Nat×Ob))(h1:∀p∈L,S.env p.1=p.2.ren (gOf σ))(h2:∀q∈M,S.objs (gOf σ q.1)=q.2.ren (gOf σ))
  (h3:(L.all λ p=>p.2.only (M.map (·.1)) 4)=true)(h4:(M.all λ q=>q.2.only (M.map (·.1)))=true)(h5:(M.map λ q=>gOf σ q.1).Nodup)
  (h6:(M.all λ q=>((decide (q.1<1000)||decide (2000<=q.1))&&(decide (gOf σ q.1<1000)||decide (2000<=gOf σ q.1)))||decide (gOf σ q.1=q.1))=true)(h7:dT (M.map (·.1)) S.objs):Ent S ⟨cZ L,aL M⟩:=by
 intro B X w0 n a w z Y;simp only[yF,gI,uN,uG]at h3 h4 h6;have h6':∀o∈M.map (·.1),((o<1000\/2000<=o)/\(gOf σ o<1000\/2000<=gOf σ o))\/gOf σ o=o:=by
  intro o Z;obtain⟨q,hq,rfl⟩:=uR.1 Z;exact h6 q hq
 have F:∀i∈M.map (·.1),∀j∈M.map (·.1),gOf σ i=gOf σ j->i=j:=by
  have:∀(M:List (Nat×Ob)),(M.map λ q=>gOf σ q.1).Nodup->∀i∈M.map (·.1),∀j∈M.map (·.1),gOf σ i=gOf σ j->i=j:=by
   intro M
   induction M with
   |nil=>intro _ i N;cases N
   |cons p M ih=>
    intro hn i N j K O;simp only[uS,qI]at hn;simp only[uS,yI]at N K;have C:∀j∈M.map (·.1),gOf σ p.1≠gOf σ j:=by
     intro j K O;obtain⟨q,hq,rfl⟩:=uR.1 K;exact hn.1 (uR.2 ⟨q,hq,O.symm⟩)
    rcases N with rfl|N<;>rcases K with rfl|K
    ·rfl
    ·exact absurd O (C j K)
    ·exact absurd O.symm (C i N)
    ·exact ih hn.2 i N j K O
  exact this M h5
 let V:Nat->Option Nat:=λ o=>if o∈M.map (·.1)then z (gOf σ o)else none
 have U:∀o∈M.map (·.1),V o=z (gOf σ o):=λ o Z=>if_pos Z
 have sub:∀o b,V o=some b->o∈M.map (·.1)/\z (gOf σ o)=some b:=by
  intro o b h;by_cases Z:o∈M.map (·.1)
  ·rw[U o Z]at h;exact⟨Z,h⟩
  ·simp only[V,if_neg Z]at h;cases h
 have s:∀b,ownX V X b->ownX z X b:=by
  rintro b (G|⟨o,G⟩)
  ·exact .inl G
  ·exact .inr ⟨_,(sub o b G).2⟩
 have R:∀o∈M.map (·.1),aL M o≠ .gone->S.objs (gOf σ o)≠ .gone:=by
  intro o Z hg;rcases rS M o with⟨h,J⟩|⟨p,T,h⟩
  ·exact absurd Z J
  ·rw[h2 (o,p) T];rw[h]at hg;exact λ O=>hg (si.1 O)
 refine⟨V,Y.size,Y.defers,Y.frame,Y.hB,Y.hXB,λ o o' b f f' e e'=>?_,λ o b e=>Y.free _ b (sub o b e).2,λ t=>?_,λ o=>?_,λ o b G=>?_⟩
 ·obtain⟨I,H⟩:=sub o b e;obtain⟨A,g4⟩:=sub o' b e';exact F o I o' A (Y.inj _ _ b (R o I f) (R o' A f') H g4)
 ·rcases tn L t with h|⟨p,T,h⟩
  ·simp only[h];exact .unk _
  ·simp only[h];have:=Y.env t;rw[h1 (t,p) T]at this;exact yj U s 4 p _ (h3 (t,p) T) this
 ·rcases rS M o with⟨h,J⟩|⟨p,T,h⟩
  ·simp only[h];exact .dead (if_neg J)
  ·simp only[h];have E:o∈M.map (·.1):=uR.2 ⟨(o,p),T,rfl⟩;have Z:=Y.objs (gOf σ o);rw[h2 (o,p) T]at Z;exact G2 U s E (h4 (o,p) T) Z
 ·obtain⟨I,H,A⟩:=Y.stay o b G;refine⟨I,?_,A⟩;by_cases Z:o∈M.map (·.1)
  ·rw[U o Z];rcases h6' o Z with h|h
   ·omega
   ·rw[h];exact H
  ·have:=Y.dead (h7 o I.1 I.2 Z);rw[this]at H;cases H
theorem DW {S:St}(σ:List (Nat×Nat))(L:List (Nat×PV))(M:List (Nat×Ob))(h:∀p∈L,S.env p.1=p.2.ren (gOf σ))(Z:∀q∈M,S.objs (gOf σ q.1)=q.2.ren (gOf σ))
  (Y:(L.all λ p=>p.2.only (M.map (·.1)) 4)=true)(V:(M.all λ q=>q.2.only (M.map (·.1)))=true)(U:(M.map λ q=>gOf σ q.1).Nodup)
  (T:(M.all λ q=>((decide (q.1<1000)||decide (2000<=q.1))&&(decide (gOf σ q.1<1000)||decide (2000<=gOf σ q.1)))||decide (gOf σ q.1=q.1))=true)(h7:dT (M.map (·.1)) S.objs):mS S L M:=
 wb σ L M h Z Y V U T h7
theorem mn {S Y:St}:Ent S Y↔∀(B X:Nat->Prop) (w0:W0) (n:Nat) (a:Act) (w:World) (ι:Nat->Option Nat),Hold B X w0 n S a w ι->∃Z,Hold B X w0 n Y a w Z:=Iff.rfl
attribute [irreducible] PW Ent mS
section hold
variable {P:Program}{B X:Nat->Prop}{w0:W0}{w:World}{n:Nat}{S:St}{a:Act}{ι:Nat->Option Nat}
theorem Rw {b:Nat}{m:Option Nat}{c d:Nat}{s:Array Nat}{Z:Obj}(h:w.heap[b]? =some (.mapIter m c s d)):(setObj b Z).run P w= .ok () (ChangeMaps.setBlock w b Z):=by
 simp only[setObj,Sem.run,h];rfl
theorem Rv {b M k:Nat}{sn:List Nat}{U:Array MapEntry}{clock:Nat}{l:List (Int×Int)}{ty:TypeId}(z:w.heap[b]? =some (.mapIter (some M) k sn.toArray k))(J:w.heap[M]? =some (.map U clock))(G:EntOk U clock l)(F:l.length=k):
  ((∀j,j<k->j∈sn)/\(Instr.next (.pointer (some ⟨b,0,none⟩)) false ty).run P w= .ok (.tuple #[.bool false]) w)\/
  ∃(j:Nat) (e:MapEntry) (w1:World),j<k/\j∉sn/\(w1=w\/w1=w.drew)/\(Instr.next (.pointer (some ⟨b,0,none⟩)) false ty).run P w= .ok (.tuple #[.bool true,e.key,e.val]) (ChangeMaps.setBlock w1 b (.mapIter (some M) k (sn++[j]).toArray k)):=by
 have H:clock=k:=G.clock.trans F;have Z:∀x∈U.toList,x.born<k:=λ x V=>by
  have:x.born∈List.range l.length:=G.born▸uR.2 ⟨x,V,rfl⟩;rw[F]at this;exact yD.1 this
 have Q:∀j,j<k->∃x∈U.toList,x.born=j:=λ j O=>by
  have:j∈U.toList.map (·.born):=by rw[G.born,F];exact yD.2 O
  exact uR.1 this
 simp only[Instr.next,getObj,Sem.run_bind,Sem.run,z,J,Result.andThen,next_test_false sn.toArray U k k Z (uI _),qK,jH];have Y:∀x∈(Array.filter (λ e=> !sn.toArray.contains e.born) U).toList,x∈U.toList/\x.born∉sn:=λ x V=>by simp at V|-;exact V
 have T:∀x∈U.toList,x.born∉sn->x∈(Array.filter (λ e=> !sn.toArray.contains e.born) U).toList:=λ x V hn=>by simp at V|-;exact⟨V,hn⟩
 generalize Array.filter (λ e=> !sn.toArray.contains e.born) U=L at Y T|-;have e1:L.filter (λ x=>decide (x.born<k))=L:=Array.filter_eq_self.2 (λ x V=>by simpa using Z x (Y x (by simpa using V)).1);have e2:L.filter (λ x=>decide (x.born≥k))=#[]:=by
  rw[Array.filter_eq_empty_iff];intro x V;have:=Z x (Y x (by simpa using V)).1;simp;omega
 simp only[e1,e2,Array.append_empty];by_cases A:L.size=0
 ·left
  have hL:L=#[]:=Array.eq_empty_of_size_eq_zero A;refine⟨λ j O=>?_,?_⟩
  ·obtain⟨x,V,C⟩:=Q j O;rcases Classical.em (j∈sn)with h|h
   ·exact h
   ·have:=T x V (C▸h);rw[hL]at this;simp at this
  ·subst hL;simp[choose,Sem.run,Question.forced]
 ·right
  have E:L.isEmpty=false:=by simp[Array.isEmpty,A]
  simp only[E,qK,jH,Df,Array.size_map];have I:∃(j:Nat) (w1:World),j<L.size/\(w1=w\/w1=w.drew)/\(choose (Question.mapNext L.size)).run P w= .ok j w1:=by
   by_cases s:L.size<=1
   ·exact⟨0,w,xA, .inl rfl,by simp[choose,Sem.run,Question.forced,s]⟩
   ·exact⟨_,w.drew,Do _ xA, .inr rfl,by
     simp only[choose,Sem.run,Question.forced,uG,s,jH,Question.cut];rfl⟩
  obtain⟨j,w1,O,R,N⟩:=I;have q:=Y L[j] xB;have K:w1.heap[b]? =some (.mapIter (some M) k sn.toArray k):=by rcases R with rfl|rfl<;>exact z
  refine⟨L[j].born,L[j],w1,Z _ q.1,q.2,R,?_⟩;simp only[N,zH,yC O,qB,Sem.run_bind,Rw K,Result.andThen,H];simp
theorem Hold.step (N:Hold B X w0 n S a w ι){o m b T k:Nat}{sn sn':List Nat}(F:S.objs o= .iter m k sn)(V:ι o=some b)(G:ι m=some T)(K:w.heap[b]? =some (.mapIter (some T) k sn.toArray k)):
  Hold B X w0 n ⟨S.env,upd o (.iter m k sn') S.objs⟩ a (ChangeMaps.setBlock w b (.mapIter (some T) k sn'.toArray k)) ι:=by
 have M:=(N.free o b V).2;have Z:S.objs o≠ .gone:=by rw[F];exact nofun
 have U:(ChangeMaps.setBlock w b (.mapIter (some T) k sn'.toArray k)).heap[b]? =some (.mapIter (some T) k sn'.toArray k):=by
  simp[ChangeMaps.setBlock,M]
 have Q:∀i,i≠b->(ChangeMaps.setBlock w b (.mapIter (some T) k sn'.toArray k)).heap[i]? =w.heap[i]? :=λ i H=>by
  simp only[ChangeMaps.setBlock,zR,if_neg (Ne.symm H)]
 exact N.change (some b) o (.iter m k sn') ι _ rfl rfl rfl (by simp[ChangeMaps.setBlock]) (λ _ _=>rfl) (λ _ h=>h)
  (λ O Y=>by
   cases Y;exact⟨⟨o,V⟩,λ E R I L=>R (N.inj E o b I Z L V),by simp only[bsz,K,U]⟩)
  (λ O _ R=>Q O (λ J=>R (by rw[J])))
  (λ O Y=>⟨.inl ⟨Y,Z⟩,by simp only[ChangeMaps.setBlock,Array.size_setIfInBounds];exact(N.free o O Y).2⟩)
  (.iter m k sn' b T V G U)
end hold
theorem I1 {P:Program}{ops:Array Oper}{Q:Exit->Act->World->Prop}{i:Nat}{rest:List Nat}{o:Oper}{a:Act}{w:World}(Y:ops[i]? =some o)(Z:o.guard=none)(h:o.wp P a w (wpOps P ops Q rest) Q):
  wpOps P ops Q (i::rest) a w:=by
 rw[wpOps_cons];unfold Go.wpOp;rw[Y];simp only[Region.wanted,Z,if_true];exact .inl h
theorem PK {P:Program}{B X:Nat->Prop}{w0:W0}{n:Nat}{S:St}{Q:Exit->St->Prop}{id t d i o m k:Nat}{sn:List Nat}{l:List (Int×Int)}{Z V:TypeId}{F C:String}{M L:Array Edge}
  (he:S.env i= .ptr o 1 0 0)(ho:S.objs o= .iter m k sn)(hm:S.objs m= .imap l)(hk:l.length=k)(ht:t<n)(h:d<n)
  (h1:(∀j,j<k->j∈sn)->Q .normal ⟨upd d (.bool false) (upd t (.tup [.bool false]) S.env),S.objs⟩)
  (A:∀j,j<k->j∉sn->Q .normal ⟨upd d (.bool true) (upd t (.tup [.bool true, .unk, .unk]) S.env),upd o (.iter m k (sn++[j])) S.objs⟩):
  PW P B X w0 n (.region id #[⟨some t, .next (.tmp i) false,Z,F,M,none⟩,⟨some d, .extract (.tmp t) 0,V,C,L,none⟩] false) Q S:=by
 unfold PW;intro a w ι O;refine wp_region ?_;show wpOps P _ _ [0,1] a w;refine I1 (o:=⟨some t, .next (.tmp i) false,Z,F,M,none⟩) rfl rfl ?_;obtain⟨b,U,G⟩:=Gw (he▸O.env i);rw[jP,gX]at U;obtain⟨bm,T,hb⟩:=EV O ho G;obtain⟨es,clock,hbm,hes⟩:=pO O hm T;have J:a.eval (.tmp i)= .pointer (some ⟨b,0,none⟩):=U;have fin:∀(c:Bool) (xs:List PV) (Y:St) (N:Act) (E:World),Y.env t= .tup (.bool c::xs)->Hold B X (w0.of P) n Y N E ι->Q .normal ⟨upd d (.bool c) Y.env,Y.objs⟩->
   wpOps P #[⟨some t, .next (.tmp i) false,Z,F,M,none⟩,⟨some d, .extract (.tmp t) 0,V,C,L,none⟩] (λ e N E=>∃Y ι',Q e Y/\Hold B X (w0.of P) n Y N E ι') [1] N E:=by
  intro c xs Y N E R z hq;refine I1 (o:=⟨some d, .extract (.tmp t) 0,V,C,L,none⟩) rfl rfl ?_;have hc:(l8 (Y.ev (.tmp t)) 0)=(True,{val:= .bool c}):=by
   show l8 (Y.env t) 0=_;rw[R];rfl
  have:=HQ (P:=P) (dst:=some d) (ty:=V) (pos:=C) (af:=L) (gd:=none) (x:= .tmp t) (i:=0) z (λ u I=>by cases I;exact h) rfl (by rw[hc];trivial);rw[hc]at this;refine this.wp λ L w2 ι2 A=>?_
  exact⟨_,ι2,hq,A⟩
 unfold Oper.wp;rcases Rv (P:=P) (ty:=Z) hb hbm hes hk with⟨K,hr⟩|⟨j,e,w1,hj,hjn,H,hr⟩
 ·rw[show execOp a.eval ⟨some t, .next (.tmp i) false,Z,F,M,none⟩=(do pure (.value (<-Instr.next (a.eval (.tmp i)) false Z)))from rfl,J];simp only[Sem.run_bind,hr,Result.andThen_ok,Sem.run_pure];rw[Oper.upon_value];exact fin false [] ⟨upd t (.tup [.bool false]) S.env,S.objs⟩ _ _ (if_pos rfl) (O.put (dst:=some t) (λ u I=>by cases I;exact ht) (.tup _ #[_] rfl λ i d v h U=>by
   rcases i with _|i
   ·simp at h U;subst h;subst U;exact .d _ _ (.sc _ rfl)
   ·simp at h)) (h1 K)
 ·rw[show execOp a.eval ⟨some t, .next (.tmp i) false,Z,F,M,none⟩=(do pure (.value (<-Instr.next (a.eval (.tmp i)) false Z)))from rfl,J];simp only[Sem.run_bind,hr,Result.andThen_ok,Sem.run_pure];rw[Oper.upon_value];have R:Hold B X (w0.of P) n S a w1 ι:=by
   rcases H with rfl|rfl
   ·exact O
   ·exact O.ext ⟨rfl,rfl,rfl,uI _,λ _ _=>rfl⟩
  have q:w1.heap[b]? =some (.mapIter (some bm) k sn.toArray k):=by rcases H with rfl|rfl<;>exact hb
  have s:=R.step (sn':=sn++[j]) ho G T q;exact fin true [.unk, .unk] ⟨upd t (.tup [.bool true, .unk, .unk]) S.env,upd o (.iter m k (sn++[j])) S.objs⟩ _ _ (if_pos rfl) (s.put (dst:=some t) (λ u I=>by cases I;exact ht) (.tup _ #[_,_,_] rfl λ i d v h U=>by
   rcases i with _|_|_|i
   ·simp at h U;subst h;subst U;exact .d _ _ (.sc _ rfl)
   ·simp at h;subst h;exact .unk _
   ·simp at h;subst h;exact .unk _
   ·simp at h)) (A j hj hjn)
end Go.PS
