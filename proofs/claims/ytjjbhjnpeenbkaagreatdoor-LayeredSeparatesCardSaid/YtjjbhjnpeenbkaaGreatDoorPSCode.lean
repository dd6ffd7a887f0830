/- Rules for code, and how a function's contract is proved. -/
import Derived.Test.YtjjbhjnpeenbkaaGreatDoorPSRegion3
set_option linter.unusedSimpArgs false
set_option linter.unusedVariables false
set_option maxHeartbeats 16000000
namespace Go.PS
open Go
def PW (P:Program)(B X:Nat->Prop)(w0:W0)(n:Nat)(c:Code)(Q:Exit->St->Prop)(S:St):Prop:=
 ∀a w ι,Hold B X (w0.of P) n S a w ι->c.wp P (λ e a' w'=>∃S' ι',Q e S'/\Hold B X (w0.of P) n S' a' w' ι') a w
def Ent (S S':St):Prop:=∀(B X:Nat->Prop) (w0:W0) (n:Nat) (a:Act) (w:World) (ι:Nat->Option Nat),Hold B X w0 n S a w ι->∃ι',Hold B X w0 n S' a w ι'
theorem Ent.refl (S:St):Ent S S:=λ _ _ _ _ _ _ ι h=>⟨ι,h⟩
theorem Ent.trans {S S' S'':St}(h:Ent S S')(h':Ent S' S''):Ent S S'':=λ B X w0 n a w ι hS=>by
 obtain⟨ι',h1⟩:=h B X w0 n a w ι hS;exact h' B X w0 n a w ι' h1
def Zjp (next:St->Prop)(Q:Exit->St->Prop):Exit->St->Prop
 | .normal,S=>next S
 | .exit i,S=>Q (.exit i) S
 | .goto i,S=>Q (.goto i) S
 | .ret,S=>Q .ret S
 | .panic c,S=>Q (.panic c) S
 | .outgrown,S=>Q .outgrown S
def Zld (id:Nat)(Q:Exit->St->Prop):Exit->St->Prop
 | .exit i,S=>if i=id then Q .normal S else Q (.exit i) S
 | .normal,S=>Q .normal S
 | .goto i,S=>Q (.goto i) S
 | .ret,S=>Q .ret S
 | .panic c,S=>Q (.panic c) S
 | .outgrown,S=>Q .outgrown S
section rules
variable {P:Program}{B X:Nat->Prop}{w0:W0}{n:Nat}{Q:Exit->St->Prop}{S:St}
theorem ZtT {c:Code}{Q':Exit->St->Prop}(h:PW P B X w0 n c Q S)(hq:∀e S,Q e S->Q' e S):PW P B X w0 n c Q' S:=
 λ a w ι hS=>wp_mono (h a w ι hS) λ _ _ _ ⟨S',ι',h1,h2⟩=>⟨S',ι',hq _ _ h1,h2⟩
theorem Zao {c:Code}(S':St)(he:Ent S S')(h:PW P B X w0 n c Q S'):PW P B X w0 n c Q S:=λ a w ι hS=>by
 obtain⟨ι',h1⟩:=he B X (w0.of P) n a w ι hS;exact h a w ι' h1
theorem ZCa (h:Q .normal S):PW P B X w0 n .skip Q S:=λ _ _ ι hS=>wp_skip ⟨S,ι,h,hS⟩
theorem Za7 (h:Q .ret S):PW P B X w0 n .ret Q S:=λ _ _ ι hS=>wp_ret ⟨S,ι,h,hS⟩
theorem ZB6 {id:Nat}(h:Q (.exit id) S):PW P B X w0 n (.exit id) Q S:=λ _ _ ι hS=>wp_exit ⟨S,ι,h,hS⟩
theorem ZB9 {x y:Code}(h:PW P B X w0 n x (Zjp (λ S'=>PW P B X w0 n y Q S') Q) S):PW P B X w0 n (.seq x y) Q S:=λ a w ι hS=>by
 refine wp_seq (wp_mono (h a w ι hS) ?_);rintro e a' w' ⟨S',ι',h1,h2⟩;cases e with
 |normal=>exact h1 a' w' ι' h2
 |_=>exact⟨S',ι',h1,h2⟩
theorem ZbW {c:Operand}{x y:Code}(t:Bool)(hc:S.ev c= .d (.sc (.bool t)))(hk:ZaD c=true)(h1:t=true->PW P B X w0 n x Q S)(h2:t=false->PW P B X w0 n y Q S):
  PW P B X w0 n (.cond c x y) Q S:=λ a w ι hS=>by
 have he:=hS.ev hk;rw[hc]at he;exact wp_cond_split (ZjL he) (λ ht=>h1 ht a w ι hS) (λ ht=>h2 ht a w ι hS)
theorem Zku {c:Code}(t:Nat)(h:S.env t= .ab)(hk:∀b:Bool,PW P B X w0 n c Q ⟨upd t (.bool b) S.env,S.objs⟩):PW P B X w0 n c Q S:=λ a w ι hS=>by
 have h1:=hS.env t;rw[h]at h1;generalize hv:a.tmps.getD t undef=v at h1;cases h1 with
 |ab b=>
  refine hk b a w ι {hS with env:=λ u=>?_};simp only[upd];split
  ·rename_i hu;rw[hu,hv];exact .d _ _ (.sc _ rfl)
  ·exact hS.env u
theorem ZB5 {id:Nat}{c:Code}(h:PW P B X w0 n c (Zld id Q) S):PW P B X w0 n (.block id c) Q S:=λ a w ι hS=>by
 refine wp_block (wp_mono (h a w ι hS) ?_);rintro e a' w' ⟨S',ι',h1,h2⟩;cases e with
 |exit i=>
  simp only[Zld,Exit.inBlock]at h1|-;split
  ·rename_i hi;rw[if_pos hi]at h1;exact⟨S',ι',h1,h2⟩
  ·rename_i hi;rw[if_neg hi]at h1;exact⟨S',ι',h1,h2⟩
 |_=>exact⟨S',ι',h1,h2⟩
theorem ZtS {c:Code}{κ:Type}(I:κ->St)(m:κ->Nat)(k0:κ)(h0:Ent S (I k0))(round:∀k,PW P B X w0 n c (Zjp (λ S'=>∃k',Ent S' (I k')/\m k'<m k) Q) (I k)):
  PW P B X w0 n (.loop c) Q S:=λ a w ι hS=>by
 have key:∀N k a w ι,m k=N->Hold B X (w0.of P) n (I k) a w ι->∀b ks cs,∃e a' w',(∃S' ι',Q e S'/\Hold B X (w0.of P) n S' a' w' ι')/\Arrives P (lone (b.at a (.code c:: .inLoop c::ks)) cs w) b ks cs e a' w':=by
  intro N
  induction N using Nat.strongRecOn with
  |_ N ih=>
   intro k a w ι hN hI b ks cs;obtain⟨e,a₁,w₁,⟨S₁,ι₁,hq,hS₁⟩,harr⟩:=round k a w ι hI b (.inLoop c::ks) cs;cases e with
   |normal=>
    obtain⟨k',hent,hlt⟩:=hq;obtain⟨ι₂,hI'⟩:=hent B X (w0.of P) n a₁ w₁ ι₁ hS₁;obtain⟨e₂,a₂,w₂,hq₂,harr₂⟩:=ih (m k') (hN▸hlt) k' a₁ w₁ ι₂ rfl hI' b ks cs;exact⟨e₂,a₂,w₂,hq₂, .of_steps (Steps.trans harr (.one step_inLoop)) harr₂⟩
   |exit id=>exact⟨_,a₁,w₁,⟨S₁,ι₁,hq,hS₁⟩, .pass (x:= .inLoop c) rfl (λ _ _=> .inl (by simp)) harr⟩
   |goto l=>exact⟨_,a₁,w₁,⟨S₁,ι₁,hq,hS₁⟩, .pass (x:= .inLoop c) rfl (λ _ _=> .inl (by simp)) harr⟩
   |ret=>exact⟨_,a₁,w₁,⟨S₁,ι₁,hq,hS₁⟩, .pass (x:= .inLoop c) rfl (λ _ _=> .inl (by simp)) harr⟩
   |panic ch=>exact⟨_,a₁,w₁,⟨S₁,ι₁,hq,hS₁⟩, .pass (x:= .inLoop c) rfl (λ _ _=> .inl (by simp)) harr⟩
   |outgrown=>exact⟨_,a₁,w₁,⟨S₁,ι₁,hq,hS₁⟩, .pass (x:= .inLoop c) rfl (λ _ _=> .inl (by simp)) harr⟩
 obtain⟨ι',hI⟩:=h0 B X (w0.of P) n a w ι hS;intro b ks cs;obtain⟨e,a',w',hq,harr⟩:=key _ k0 a w ι' rfl hI b ks cs;exact⟨e,a',w',hq, .of_steps (.one step_loop) harr⟩
def ZgQ (S:St)(L:List (Nat×PV))(M:List (Nat×Ob)):Prop:=Ent S ⟨Zbz L,Zap M⟩
theorem Zaf {c:Code}{κ:Type}(inv:κ->Prop)(L:κ->List (Nat×PV))(M:κ->List (Nat×Ob))(m:κ->Nat)(k0:κ)(h0:inv k0)(h1:ZgQ S (L k0) (M k0))
  (round:∀k,inv k->PW P B X w0 n c (Zjp (λ S'=>∃k',inv k'/\ZgQ S' (L k') (M k')/\m k'<m k) Q) ⟨Zbz (L k),Zap (M k)⟩):PW P B X w0 n (.loop c) Q S:=
 ZtS (κ:={k:κ//inv k}) (λ k=>⟨Zbz (L k.1),Zap (M k.1)⟩) (λ k=>m k.1) ⟨k0,h0⟩ h1 λ k=>ZtT (round k.1 k.2) λ e S' h=>by
  cases e with
  |normal=>obtain⟨k',h2,h3,h4⟩:=h;exact⟨⟨k',h2⟩,h3,h4⟩
  |_=>exact h
theorem ZgF (own:Nat->Bool)(ZcT:P.follows .mixedOrders=true){id:Nat}{ops:Array Oper}{draw:Bool}
  (h:Zad P own ops.toList ops.toList S [] λ S' fs=>Zih n ops draw fs.reverse=true/\Q .normal S'):PW P B X w0 n (.region id ops draw) Q S:=λ _ _ _ hS=>
 ZCw rfl ZcT hS h λ Sf _ ⟨h1,h2⟩=>⟨h1,λ _ _ ι' hS'=>⟨Sf,ι',h2,hS'⟩⟩
end rules
theorem ZDa {P:Program}{own:Nat->Bool}{all rest:List Oper}{S:St}{fs:List Zbp}{K:St->List Zbp->Prop}{dst:Option Nat}{ty:TypeId}{pos:String}{af:Array Edge}{f:Operand}{as:Array Operand}{tys:Array TypeId}
  {g:FuncId}{ds:List D}{r:D}(hc:Zaa P g ds r)(hf:S.ev f= .d (.fn g []))(hx:(as.toList.map S.ev).mapM (toD S.objs 4)=some ds)(hr:(as.toList.map S.ev).flatMap (PV.refs S.objs 4)=[]\/r.flat 4=true)
  (hk:Zad P own all rest (S.put dst (.d r)) (((as.toList.map S.ev).flatMap (PV.refs S.objs 4),[])::fs) K):
  Zad P own all (⟨dst, .call ⟨.value f,as,tys⟩,ty,pos,af,none⟩::rest) S fs K:=
 Zum r ⟨g,[],ds,hf,hx,by simpa using hc,hr⟩ hk
theorem Zpx {x:Int}(h1:-9223372036854775808<=x)(h2:x<=9223372036854775807):IntKind.i64.wrap x=x:=by
 rw[IntKind.wrap_i64];omega
theorem Zs7 {w:World}{ι:Nat->Option Nat}{X:Nat->Prop}{L:List Nat}{ι':Nat->Option Nat}(hκ:∀o∈L,ι' o=ι o)(sub:∀b,ownX ι' X b->ownX ι X b):∀(k:Nat) (p:PV) (v:Value),p.only L k=true->PV.At w ι X p v->PV.At w ι' X p v:=by
 intro k
 induction k with
 |zero=>intro p v h;simp[PV.only]at h
 |succ k ih=>
  intro p v h hp;cases hp with
  |d x v h=>exact .d x v (h.sub sub)
  |ref o sz off len cap capr b hι hl hc hm hs=>
   simp only[PV.only,yQ,uF]at h;exact .ref o sz off len cap capr b ((hκ o h).trans hι) hl hc hm hs
  |ref0 o sz off base=>exact .ref0 o sz off base
  |ptr o sz i c b hι=>
   simp only[PV.only,yQ,uF]at h;exact .ptr o sz i c b ((hκ o h).trans hι)
  |mp o b hι=>
   simp only[PV.only,yQ,uF]at h;exact .mp o b ((hκ o h).trans hι)
  |ifp T o b hι=>
   simp only[PV.only,yQ,uF]at h;exact .ifp T o b ((hκ o h).trans hι)
  |nilS=>exact .nilS
  |z0 base=>exact .z0 base
  |ag cs arr hsz hone hat=>
   simp only[PV.only,uX]at h;exact .ag cs arr hsz hone λ j p v hj hv=>ih p v (h p (uA hj)) (hat j p v hj hv)
  |tup cs arr hsz hat=>
   simp only[PV.only,uX]at h;exact .tup cs arr hsz λ j p v hj hv=>ih p v (h p (uA hj)) (hat j p v hj hv)
  |fn f cs arr hsz hat=>
   simp only[PV.only,uX]at h;exact .fn f cs arr hsz λ j p v hj hv=>ih p v (h p (uA hj)) (hat j p v hj hv)
  |unk v=>exact .unk v
  |und=>exact .und
  |ab b=>exact .ab b
theorem Zls (L:List (Nat×PV))(t:Nat):Zbz L t= .unk\/∃p,(t,p)∈L/\Zbz L t=p:=by
 induction L with
 |nil=>exact .inl rfl
 |cons q L ih=>
  obtain⟨i,v⟩:=q;by_cases h:t=i
  ·subst h;exact .inr ⟨v,by simp,if_pos rfl⟩
  ·have he:Zbz ((i,v)::L) t=Zbz L t:=if_neg h;rcases ih with h1|⟨p,h1,h2⟩
   ·exact .inl (he.trans h1)
   ·exact .inr ⟨p,uO _ h1,he.trans h2⟩
theorem Zki (L:List (Nat×Ob))(t:Nat):(Zap L t= .dead/\t∉L.map (·.1))\/∃p,(t,p)∈L/\Zap L t=p:=by
 induction L with
 |nil=>exact .inl ⟨rfl,by simp⟩
 |cons q L ih=>
  obtain⟨i,v⟩:=q;by_cases h:t=i
  ·subst h;exact .inr ⟨v,by simp,if_pos rfl⟩
  ·have he:Zap ((i,v)::L) t=Zap L t:=if_neg h;rcases ih with⟨h1,h0⟩|⟨p,h1,h2⟩
   ·exact .inl ⟨he.trans h1,by simp only[uT,yF];rintro(h'|h');exact h h';exact h0 h'⟩
   ·exact .inr ⟨p,uO _ h1,he.trans h2⟩
def Zb5 (ids:List Nat)(objs:Nat->Ob):Prop:=∀o,1000<=o->o<2000->o∉ids->objs o= .dead
theorem ZgD {ids:List Nat}{objs:Nat->Ob}{t:Nat}{ob:Ob}(ht:(decide (t<1000)||decide (2000<=t)||ids.contains t)=true)(h:Zb5 ids objs):Zb5 ids (upd t ob objs):=by
 intro o h1 h2 h3;simp only[qZ,uF,yQ]at ht
 have hne:o≠t:=λ he=>by subst he;rcases ht with(h|h)|h;· omega
                        · omega
                        · exact h3 h
 rw[upd,if_neg hne];exact h o h1 h2 h3
theorem ZgC {ids:List Nat}(M:List (Nat×Ob))(h:(M.all λ q=>decide (q.1<1000)||decide (2000<=q.1)||ids.contains q.1)=true):Zb5 ids (Zap M):=by
 intro o h1 h2 h3;refine Zi8 M o (λ hm=>?_);obtain⟨q,hq,rfl⟩:=uP.1 hm;simp only[uX,qZ,uF,yQ]at h;rcases h q hq with(h|h)|h
 ·omega
 ·omega
 ·exact h3 h
theorem ZgB {ids:List Nat}:Zb5 ids (λ _=> .dead):=λ _ _ _ _=>rfl
theorem Zik {ids:List Nat}{objs:Nat->Ob}{o sz:Nat}{l:List D}(h:Zb5 ids objs):Zb5 ids (Zg2 o sz l objs):=λ i h1 h2 h3=>by
 rw[Zgt,h i h1 h2 h3];rfl
theorem Zcy {S:St}(t o sz:Nat)(h1:S.env t= .nilS)(h2:S.objs o= .dead):Ent S ⟨upd t (.ref o sz 0 0 0) S.env,upd o (.row sz []) S.objs⟩:=by
 intro B X w0 n a w ι hS;refine⟨ι,hS.size,hS.defers,hS.frame,hS.hB,hS.hXB,λ o1 o2 b f1 f2 e1 e2=>?_,hS.free,λ u=>?_,λ q=>?_,hS.stay⟩
 ·have live:∀o',upd o (.row sz []) S.objs o'≠ .gone->S.objs o'≠ .gone:=by
   intro o' hg;by_cases he:o'=o
   ·rw[he,h2];simp
   ·simp only[upd,if_neg he]at hg;exact hg
  exact hS.inj o1 o2 b (live o1 f1) (live o2 f2) e1 e2
 ·by_cases hu:u=t
  ·subst hu;have:=hS.env u;rw[h1]at this;simp only[upd,if_true];generalize a.tmps.getD u undef=v at this;cases this;exact .ref0 _ _ _ _
  ·simp only[upd,if_neg hu];exact hS.env u
 ·by_cases hq:q=o
  ·subst hq;simp only[upd,if_true];exact .row0 _ (hS.dead h2)
  ·simp only[upd,if_neg hq];exact hS.objs q
theorem Zch {S:St}(q i o sz:Nat){cs:List PV}(h1:S.objs q= .cells cs)(hi:cs[i]? =some .nilS)(h2:S.objs o= .dead):
  Ent S ⟨S.env,upd o (.row sz []) (upd q (.cells (cs.set i (.ref o sz 0 0 0))) S.objs)⟩:=by
 intro B X w0 n a w ι hS;have hqo:q≠o:=by rintro rfl;rw[h1]at h2;cases h2
 refine⟨ι,hS.size,hS.defers,hS.frame,hS.hB,hS.hXB,λ o1 o2 b f1 f2 e1 e2=>?_,hS.free,hS.env,λ p=>?_,hS.stay⟩
 ·have live:∀o',upd o (.row sz []) (upd q (.cells (cs.set i (.ref o sz 0 0 0))) S.objs) o'≠ .gone->S.objs o'≠ .gone:=by
   intro o' hg;by_cases he:o'=o
   ·rw[he,h2];simp
   ·by_cases he2:o'=q
    ·rw[he2,h1];simp
    ·simp only[upd,if_neg he,if_neg he2]at hg;exact hg
  exact hS.inj o1 o2 b (live o1 f1) (live o2 f2) e1 e2
 ·by_cases hp:p=o
  ·subst hp;simp only[upd,if_true];exact .row0 _ (hS.dead h2)
  ·by_cases hp2:p=q
   ·subst hp2;have hq:=hS.objs p;rw[h1]at hq;simp only[upd,if_neg hp,if_true];cases hq with
    |cells _ b c T hι hb hsz hone h=>
     refine .cells _ b c T hι hb (by simpa using hsz) hone λ j x v hx hv=>?_
     rw[qL]at hx;split at hx
     ·rename_i hij;subst hij;split at hx
      ·cases hx;have:=h i _ v hi hv;cases this;exact .ref0 _ _ _ _
      ·cases hx
     ·exact h j x v hx hv
   ·simp only[upd,if_neg hp,if_neg hp2];exact hS.objs p
theorem PV.frzL_eq (o sz:Nat)(l:List D):∀cs:List PV,PV.frzL o sz l cs=cs.map (PV.frz o sz l)
 |[]=>rfl
 |c::cs=>by rw[PV.frzL,PV.frzL_eq o sz l cs];rfl
theorem Zc5 {S:St}(o sz:Nat)(l:List D)(h2:S.objs o= .row sz l)(hng:∀o',S.objs o'≠ .gone)(hmv:o<1000\/2000<=o):
  Ent S ⟨ZnH o sz l S.env,upd o .dead (Zg2 o sz l S.objs)⟩:=by
 intro B X w0 n a w ι hS;have hoo:=hS.objs o;rw[h2]at hoo;have hsub:∀b,ownX (upd o none ι) X b->ownX ι X b:=by
  rintro b (hb|⟨o',hb⟩)
  ·exact .inl hb
  ·by_cases he:o'=o
   ·subst he;rw[upd,if_pos rfl]at hb;cases hb
   ·rw[upd,if_neg he]at hb;exact .inr ⟨o',hb⟩
 have hnb:∀b,ι o=some b->¬ownX (upd o none ι) X b:=by
  intro b hι;rintro(hx|⟨o',ho'⟩)
  ·exact(hS.free o b hι).1 (hS.hXB.1 b hx)
  ·by_cases he:o'=o
   ·subst he;rw[upd,if_pos rfl]at ho';cases ho'
   ·rw[upd,if_neg he]at ho';exact he (hS.inj o' o b (hng o') (hng o) ho' hι)
 have cell:∀b i j d e,ι o=some b->l[i]? =some d->d.cells[j]? =some e->∃c T v,w.heap[b]? =some (.cells c T (0,0))/\c[i*sz+j]? =some v/\v.oneCell'=true/\D.At w (ownX (upd o none ι) X) e v:=by
  intro b i j d e hι hi hj;cases hoo with
  |row0 _ h=>rw[h]at hι;cases hι
  |row _ _ b' c T hι' hb hsz hcl hone h=>
   rw[hι]at hι';cases hι';have hjs:j<sz:=by rw[<-hcl d (uA hi)];exact(uB.1 hj).1
   have hil:=(uB.1 hi).1;have hlt:i*sz+j<c.size:=by
    have:(i+1)*sz<=l.length*sz:=yO _ (by omega);rw[qJ]at this;omega
   have hg:c[i*sz+j]? =some c[i*sz+j]:=uU hlt;exact⟨c,T,_,hb,hg,hone _ _ hg,(h i d j e _ hi hj hg).sub hsub⟩
 have hcl:∀d∈l,d.cells.length=sz:=by
  cases hoo with
  |row0 _ h=>simp
  |row _ _ b' c T hι' hb hsz hcl hone h=>exact hcl
 have val:∀{p:PV} {v:Value},PV.At w ι X p v->PV.At w (upd o none ι) X (p.frz o sz l) v:=by
  intro p v hp
  induction hp with
  |d x v h=>simp only[PV.frz];exact .d x v (h.sub hsub)
  |mp o' b hι=>
   simp only[PV.frz];by_cases he:o'=o
   ·rw[if_pos he];exact .unk _
   ·rw[if_neg he];exact .mp o' b ((if_neg he).trans hι)
  |ifp T o' b hι=>
   simp only[PV.frz];by_cases he:o'=o
   ·rw[if_pos he];exact .unk _
   ·rw[if_neg he];exact .ifp T o' b ((if_neg he).trans hι)
  |ref o' sz' off len cap capr b hι hl hc hm hs=>
   simp only[PV.frz];by_cases he:o'=o
   ·subst he;rw[if_pos rfl];split
    ·rename_i hcond;obtain⟨rfl,hle⟩:=hcond;have hlen2:((l.drop off).take len).length=len:=by simp;omega
     have key:∀(i:Nat) d (j:Nat) e,((l.drop off).take len)[i]? =some d->d.cells[j]? =some e->l[off+i]? =some d:=by
      intro i d j e hi hj;rw[qH]at hi;split at hi
      ·rw[gA]at hi;exact hi
      ·cases hi
     refine .d _ _ ?_;have:=D.At.sl (w:=w) (X:=ownX (upd o' none ι) X) ((l.drop off).take len) b (off*sz') capr sz' (by rw[hlen2];exact hl) hm (λ d hd=>hcl d (kY (gT hd)))
      (λ i j=>(w.cell? ⟨b,off*sz'+i*sz'+j,none⟩).getD undef) (λ i d j e hi hj=>by
       obtain⟨c,T,v,g1,g2,g3,g4⟩:=cell b (off+i) j d e hι (key i d j e hi hj) hj;have heq:off*sz'+i*sz'+j=(off+i)*sz'+j:=by rw[qJ]
       have hc:w.cell? ⟨b,off*sz'+i*sz'+j,none⟩=some v:=by rw[Zdg g1,heq];exact g2
       rw[hc];exact⟨rfl,g3,hnb b hι⟩) (λ i d j e hi hj=>by
       obtain⟨c,T,v,g1,g2,g3,g4⟩:=cell b (off+i) j d e hι (key i d j e hi hj) hj;have heq:off*sz'+i*sz'+j=(off+i)*sz'+j:=by rw[qJ]
       have hc:w.cell? ⟨b,off*sz'+i*sz'+j,none⟩=some v:=by rw[Zdg g1,heq];exact g2
       rw[hc];exact g4)
     rw[hlen2]at this;exact this
    ·exact .unk _
   ·rw[if_neg he];exact .ref o' sz' off len cap capr b (by rw[upd,if_neg he];exact hι) hl hc hm hs
  |ref0 o' sz' off base=>
   simp only[PV.frz];by_cases he:o'=o
   ·subst he;rw[if_pos rfl];split
    ·simp only[yX];exact .d _ _ (.slnil _ _)
    ·exact .unk _
   ·rw[if_neg he];exact .ref0 o' sz' off base
  |ptr o' sz' i c b hι=>
   simp only[PV.frz];by_cases he:o'=o
   ·subst he;rw[if_pos rfl];split
    ·rename_i hcond;obtain⟨rfl,hil⟩:=hcond;have hli:l[i]? =some l[i]:=uR hil;refine .d _ _ ?_;rw[hli];simp only[yN];refine .pt _ b _ (λ j=>(w.cell? ⟨b,i*sz'+c+j,none⟩).getD undef) (λ j e hj=>?_) (λ j e hj=>?_)
     ·rw[gA]at hj;obtain⟨ca,T,v,g1,g2,g3,g4⟩:=cell b i (c+j) _ e hι hli hj;have hc:w.cell? ⟨b,i*sz'+c+j,none⟩=some v:=by rw[Zdg g1,kX];exact g2
      rw[hc];exact⟨rfl,g3,hnb b hι⟩
     ·rw[gA]at hj;obtain⟨ca,T,v,g1,g2,g3,g4⟩:=cell b i (c+j) _ e hι hli hj;have hc:w.cell? ⟨b,i*sz'+c+j,none⟩=some v:=by rw[Zdg g1,kX];exact g2
      rw[hc];exact g4
    ·exact .unk _
   ·rw[if_neg he];exact .ptr o' sz' i c b (by rw[upd,if_neg he];exact hι)
  |nilS=>simp only[PV.frz];exact .nilS
  |z0 base=>simp only[PV.frz];exact .z0 base
  |ag cs arr hsz hone _ ih=>
   simp only[PV.frz,PV.frzL_eq];refine .ag _ arr (by simpa using hsz) hone (λ j p v hj hv=>?_);rw[uI]at hj;cases hq:cs[j]? with
   |none=>rw[hq]at hj;cases hj
   |some q=>rw[hq]at hj;cases hj;exact ih j q v hq hv
  |tup cs arr hsz _ ih=>
   simp only[PV.frz,PV.frzL_eq];refine .tup _ arr (by simpa using hsz) (λ j p v hj hv=>?_);rw[uI]at hj;cases hq:cs[j]? with
   |none=>rw[hq]at hj;cases hj
   |some q=>rw[hq]at hj;cases hj;exact ih j q v hq hv
  |fn f cs arr hsz _ ih=>
   simp only[PV.frz,PV.frzL_eq];refine .fn f _ arr (by simpa using hsz) (λ j p v hj hv=>?_);rw[uI]at hj;cases hq:cs[j]? with
   |none=>rw[hq]at hj;cases hj
   |some q=>rw[hq]at hj;cases hj;exact ih j q v hq hv
  |unk v=>simp only[PV.frz];exact .unk v
  |und=>simp only[PV.frz];exact .und
  |ab b=>simp only[PV.frz];exact .ab b
 have hιo:∀o' b,upd o none ι o'=some b->o'≠o/\ι o'=some b:=by
  intro o' b hb;by_cases he:o'=o
  ·subst he;rw[upd,if_pos rfl]at hb;cases hb
  ·rw[upd,if_neg he]at hb;exact⟨he,hb⟩
 refine⟨upd o none ι,hS.size,hS.defers,hS.frame,hS.hB,hS.hXB,λ o1 o2 b _ _ e1 e2=>hS.inj o1 o2 b (hng o1) (hng o2) (hιo o1 b e1).2 (hιo o2 b e2).2,λ o' b hb=>hS.free o' b (hιo o' b hb).2,λ u=>val (hS.env u),λ q=>?_,λ o' b hb=>?_⟩
 ·by_cases hq:q=o
  ·subst hq;simp only[upd,if_true];exact .dead (if_pos rfl)
  ·simp only[upd,if_neg hq,Zgt];have hqi:upd o none ι q=ι q:=if_neg hq;have:=hS.objs q;cases hob:S.objs q with
   |dead=>rw[hob]at this;cases this with|dead h=>exact .dead (hqi.trans h)
   |gone=>exact .gone
   |imap l'=>
    rw[hob]at this;simp only[Ob.frz];cases this with
    |imap _ b es clock hι hb he=>exact .imap _ b es clock (hqi.trans hι) hb he
   |iter m k sn=>
    rw[hob]at this;simp only[Ob.frz];cases this with
    |iter _ _ _ b bm hι hm hb=>
     split
     ·exact .gone
     ·rename_i hmo;exact .iter m k sn b bm (hqi.trans hι) ((if_neg hmo).trans hm) hb
   |cells cs=>
    rw[hob]at this;cases this with
    |cells _ b c T hι hb hsz hone hat=>
     simp only[Ob.frz,PV.frzL_eq];refine .cells _ b c T (hqi.trans hι) hb (by simpa using hsz) hone (λ j p v hj hv=>?_);rw[uI]at hj;cases hp:cs[j]? with
     |none=>rw[hp]at hj;cases hj
     |some p'=>rw[hp]at hj;cases hj;exact val (hat j p' v hp hv)
   |row sz' l'=>
    rw[hob]at this;simp only[Ob.frz];cases this with
    |row0 _ h=>exact .row0 _ (hqi.trans h)
    |row _ _ b c T hι hb hsz hcl' hone hat=>exact .row _ _ b c T (hqi.trans hι) hb hsz hcl' hone λ i d j e v hi hj hv=>(hat i d j e v hi hj hv).sub hsub
 ·obtain⟨g1,g2,g3⟩:=hS.stay o' b hb;refine⟨g1,?_,g3⟩;rw[upd,if_neg (λ he=>by subst he;omega)];exact g2
theorem ZcW (M:List (Nat×Ob))(h:(M.all λ q=>match q.2 with| .gone=>false|_=>true)=true):∀o,Zap M o≠ .gone:=by
 intro o;rcases Zki M o with⟨h1,_⟩|⟨p,h1,h2⟩
 ·rw[h1];simp
 ·rw[h2];simp only[uX]at h;have:=h (o,p) h1;intro he;rw[he]at this;cases this
def Zes :Nat->List D->Nat->PV
 |_,[]=>λ _=> .unk
 |k,d::r=>upd k (.d d) (Zes (k+1) r)
theorem Zwv (ds:List D):∀(k t:Nat),Zes k ds t=if k<=t then(match ds[t-k]? with|some d=> .d d|none=> .unk)else .unk:=by
 induction ds with
 |nil=>intro k t;simp[Zes]
 |cons d r ih=>
  intro k t;simp only[Zes,upd,ih];by_cases h:t=k
  ·subst h;simp
  ·rw[if_neg h];by_cases h2:k<=t
   ·rw[if_pos h2,if_pos (by omega),show t-k=(t-(k+1))+1 by omega,kB]
   ·rw[if_neg h2,if_neg (by omega)]
def Zmz (P:Program)(S:St):ResultVar->D->Prop
 | .tmp t,d=>toD S.objs 4 (S.env t)=some d
 | .cell t T,d=>∃o sz i c,S.env t= .ptr o sz i c/\(tyi P T).ok=true/\(Zfy (tyi P T) (S.objs o) sz i c).1/\toD S.objs 4 (Zfy (tyi P T) (S.objs o) sz i c).2=some d
def Zmx (P:Program)(S:St):List ResultVar->List D->Prop
 |[],[]=>True
 |x::xs,d::ds=>Zmz P S x d/\Zmx P S xs ds
 |_,_=>False
def ZkS (P:Program)(rs:List ResultVar)(r:D)(S:St):Prop:=
 match rs with
 |[x]=>Zmz P S x r
 |xs=>∃ds,r= .tup ds/\Zmx P S xs ds
def ZpL (P:Program)(rs:List ResultVar)(r:D):Exit->St->Prop
 | .normal,S=>ZkS P rs r S
 | .ret,S=>ZkS P rs r S
 |_,_=>False
def Zf8 (tmps:Array Value):ResultVar->Sem Value
 | .tmp t=>pure (tmps.getD t undef)
 | .cell c t=>do loadVar t (<-asAddr (tmps.getD c undef))
theorem Zug {P:Program}{B X:Nat->Prop}{w0:W0}{w:World}{n:Nat}{S:St}{a:Act}{ι:Nat->Option Nat}(hS:Hold B X w0 n S a w ι){x:ResultVar}{d:D}(h:Zmz P S x d):
  ∃v,(Zf8 a.tmps x).run P w= .ok v w/\D.At w X d v:=by
 cases x with
 |tmp t=>exact⟨_,rfl,Zpk hS (λ _ h=>h) 4 _ _ d h (hS.env t)⟩
 |cell t T=>
  obtain⟨o,sz,i,c,he,hok,hc,hd⟩:=h;have hp:=hS.env t;rw[he]at hp;obtain⟨v,hr,hv⟩:=ZlG (P:=P) hS hp hok hc;refine⟨v,?_,Zpk hS (λ _ h=>h) 4 _ v d hd hv⟩;obtain⟨va,hva⟩:∃va,a.tmps.getD t undef=va:=⟨_,rfl⟩;rw[hva]at hp hr;cases hp;simp only[Instr.loadAt,Instr.sureAddr,Sem.run_bind,Sem.run_pure,Result.andThen_ok]at hr;simp only[Zf8,hva,asAddr,Sem.run_bind,Sem.run_pure,Result.andThen_ok,hr]
theorem Zue {P:Program}{B X:Nat->Prop}{w0:W0}{w:World}{n:Nat}{S:St}{a:Act}{ι:Nat->Option Nat}(hS:Hold B X w0 n S a w ι):∀(xs:List ResultVar) (ds:List D),Zmx P S xs ds->
  ∃vs:List Value,(xs.mapM (Zf8 a.tmps)).run P w= .ok vs w/\vs.length=ds.length/\xs.length=ds.length/\
   ∀(j:Nat) d v,ds[j]? =some d->vs[j]? =some v->D.At w X d v:=by
 intro xs
 induction xs with
 |nil=>
  intro ds h;cases ds with
  |nil=>exact⟨[],rfl,rfl,rfl,by simp⟩
  |cons _ _=>exact h.elim
 |cons x xs ih=>
  intro ds h;cases ds with
  |nil=>exact h.elim
  |cons d ds=>
   obtain⟨h1,h2⟩:=h;obtain⟨v,hr,hv⟩:=Zug (P:=P) hS h1;obtain⟨vs,hrs,hl,hl2,hvs⟩:=ih ds h2;refine⟨v::vs,?_,by simp[hl],by simp[hl2],λ j e u hj hu=>?_⟩
   ·simp only[jU,Sem.run_bind,hr,Result.andThen_ok,hrs,Sem.run_pure]
   ·cases j with
    |zero=>simp at hj hu;subst hj;subst hu;exact hv
    |succ j=>exact hvs j e u (by simpa using hj) (by simpa using hu)
theorem ZCM {P:Program}{B X:Nat->Prop}{w0:W0}{w:World}{n:Nat}{S:St}{a:Act}{ι:Nat->Option Nat}(hS:Hold B X w0 n S a w ι){fn:Func}{r:D}(h:ZkS P fn.results.toList r S):
  ∃v,(results fn a.tmps).run P w= .ok v w/\D.At w X r v:=by
 generalize hrs:fn.results.toList=rs at h;have hmap:∀(vs:List Value),(rs.mapM (Zf8 a.tmps)).run P w= .ok vs w->
   (results fn a.tmps).run P w= .ok (if hh:vs.toArray.size=1 then vs.toArray[0]else .tuple vs.toArray) w:=by
  intro vs hvs;have:results fn a.tmps=(do let vs<-fn.results.mapM (Zf8 a.tmps);pure (if hh:vs.size=1 then vs[0]else .tuple vs)):=by
   unfold results
   first
    |rfl
    |(congr 1;done)
    |(congr 1;congr 1;funext x;cases x<;>rfl)
  rw[this,Array.mapM_eq_mapM_toList,hrs];simp only[Sem.run_bind,Sem.run_map,hvs,Result.andThen_ok,Sem.run_pure]
 match rs,h,hmap with
 |[],⟨ds,hr,hall⟩,hmap=>
  obtain⟨vs,h1,h2,h3,h4⟩:=Zue (P:=P) hS [] ds hall;refine⟨_,hmap vs h1,?_⟩;subst hr;rw[dif_neg (by simp;simp at h3;omega)];exact .tup ds vs.toArray (by simp[h2]) (λ j d v hj hv=>h4 j d v hj (by simpa using hv))
 |[x],h,hmap=>
  obtain⟨v,h1,h2⟩:=Zug (P:=P) hS h;refine⟨v,?_,h2⟩;have:=hmap [v] (by simp only[jU,List.mapM_nil,Sem.run_bind,h1,Result.andThen_ok,Sem.run_pure]);simpa using this
 |x::y::zs,⟨ds,hr,hall⟩,hmap=>
  obtain⟨vs,h1,h2,h3,h4⟩:=Zue (P:=P) hS _ ds hall;refine⟨_,hmap vs h1,?_⟩;subst hr;rw[dif_neg (by simp at h3|-;omega)];exact .tup ds vs.toArray (by simp[h2]) (λ j d v hj hv=>h4 j d v hj (by simpa using hv))
theorem Zxc {P:Program}{f:FuncId}{fn:Func}{c:Code}{args:List D}{r:D}(hf:P.funcs[f]? =some fn)(hb:fn.body=some c)(hn:(fn.name== "runtime.NumGoroutine")=false)(hl:args.length<=fn.ntmps)
  (h:(∃w X vs,ZhH w X args vs)->∀B X w0,PW P B X w0 fn.ntmps c (ZpL P fn.results.toList r) ⟨Zes 0 args,λ _=> .dead⟩):Zaa P f args r:=by
 refine⟨⟨fn,hf,by rw[hb];rfl,hn⟩,λ w X vs hX hat htb=>?_⟩;refine calls_of_wp hf hb ?_;have hS:Hold (λ b=>b<w.heap.size) X ((⟨w,λ _=>none,[]⟩:W0).of P) fn.ntmps ⟨Zes 0 args,λ _=> .dead⟩ {tmps:=vs++Array.replicate (fn.ntmps-vs.size) undef,defers:=[]} w (λ _=>none):=by
  refine⟨by simp;have:=hat.1;omega,rfl,⟨rfl,rfl,rfl,uJ _,λ _ _=>rfl⟩,λ _ h=>h,⟨hX,htb⟩,(λ _ _ _ _ _ h=>by cases h),(λ _ _ h=>by cases h),λ t=>?_,λ o=>Ob.At.dead rfl,λ _ _ h=>by cases h⟩;simp only[Zwv,uH,if_true,zG];cases hd:args[t]? with
  |none=>exact .unk _
  |some d=>
   have hlt:t<vs.size:=by have:=(uB.1 hd).1;have:=hat.1;omega
   have hv:vs[t]? =some vs[t]:=uU hlt;have hg:(vs++Array.replicate (fn.ntmps-vs.size) undef).getD t undef=vs[t]:=by
    rw[qO,zM hlt,hv];rfl
   simp only[hg];refine .d _ _ ((hat.2 t d _ hd hv).sub ?_);rintro b (hb|⟨o,hb⟩)
   ·exact hb
   ·cases hb
 refine wp_mono (h ⟨w,X,vs,hat⟩ _ X ⟨w,λ _=>none,[]⟩ _ w _ hS) ?_;rintro e a' w' ⟨S',ι',hq,hS'⟩;have fin:ZkS P fn.results.toList r S'->a'.defers=[]/\∃v,(results fn a'.tmps).run P w'= .ok v w'/\(∃v',Ending.returned v= .returned v'/\D.At w' X r v'/\RowKit.Below w.heap.size w w'):=by
  intro hr;obtain⟨v,h1,h2⟩:=ZCM (P:=P) hS' hr;exact⟨hS'.defers,v,h1,v,rfl,h2,⟨hS'.frame.os,hS'.frame.tape,hS'.frame.output,hS'.frame.size,hS'.frame.keep⟩⟩
 cases e with
 |normal=>exact fin hq
 |ret=>exact fin hq
 |_=>exact hq.elim
def ZgT :Nat->List PV->Nat->PV
 |_,[]=>λ _=> .unk
 |k,d::r=>upd k d (ZgT (k+1) r)
theorem Zwu (ds:List PV):∀(k t:Nat),ZgT k ds t=if k<=t then(match ds[t-k]? with|some d=>d|none=> .unk)else .unk:=by
 induction ds with
 |nil=>intro k t;simp[ZgT]
 |cons d r ih=>
  intro k t;simp only[ZgT,upd,ih];by_cases h:t=k
  ·subst h;simp
  ·rw[if_neg h];by_cases h2:k<=t
   ·rw[if_pos h2,if_pos (by omega),show t-k=(t-(k+1))+1 by omega,kB]
   ·rw[if_neg h2,if_neg (by omega)]
def ZmA (P:Program)(S:St):ResultVar->PV->Prop
 | .tmp t,p=>S.env t=p
 | .cell t T,p=>∃o sz i c,S.env t= .ptr o sz i c/\(tyi P T).ok=true/\(Zfy (tyi P T) (S.objs o) sz i c).1/\(Zfy (tyi P T) (S.objs o) sz i c).2=p
def Zmy (P:Program)(S:St):List ResultVar->List PV->Prop
 |[],[]=>True
 |x::xs,d::ds=>ZmA P S x d/\Zmy P S xs ds
 |_,_=>False
def ZkT (P:Program)(rs:List ResultVar)(r:PV)(S:St):Prop:=
 match rs with
 |[x]=>ZmA P S x r
 |xs=>∃ds,r= .tup ds/\Zmy P S xs ds
def ZpM (P:Program)(rs:List ResultVar)(r:PV)(M':List (Nat×Ob)):Exit->St->Prop
 | .normal,S=>ZkT P rs r S/\∀q∈M',S.objs q.1=q.2
 | .ret,S=>ZkT P rs r S/\∀q∈M',S.objs q.1=q.2
 |_,_=>False
theorem Zuf {P:Program}{B X:Nat->Prop}{w0:W0}{w:World}{n:Nat}{S:St}{a:Act}{ι:Nat->Option Nat}(hS:Hold B X w0 n S a w ι){x:ResultVar}{d:PV}(h:ZmA P S x d):
  ∃v,(Zf8 a.tmps x).run P w= .ok v w/\PV.At w ι X d v:=by
 cases x with
 |tmp t=>exact⟨_,rfl,by have:=hS.env t;rw[h]at this;exact this⟩
 |cell t T=>
  obtain⟨o,sz,i,c,he,hok,hc,rfl⟩:=h;have hp:=hS.env t;rw[he]at hp;obtain⟨v,hr,hv⟩:=ZlG (P:=P) hS hp hok hc;refine⟨v,?_,hv⟩;obtain⟨va,hva⟩:∃va,a.tmps.getD t undef=va:=⟨_,rfl⟩;rw[hva]at hp hr;cases hp;simp only[Instr.loadAt,Instr.sureAddr,Sem.run_bind,Sem.run_pure,Result.andThen_ok]at hr;simp only[Zf8,hva,asAddr,Sem.run_bind,Sem.run_pure,Result.andThen_ok,hr]
theorem Zud {P:Program}{B X:Nat->Prop}{w0:W0}{w:World}{n:Nat}{S:St}{a:Act}{ι:Nat->Option Nat}(hS:Hold B X w0 n S a w ι):∀(xs:List ResultVar) (ds:List PV),Zmy P S xs ds->
  ∃vs:List Value,(xs.mapM (Zf8 a.tmps)).run P w= .ok vs w/\vs.length=ds.length/\xs.length=ds.length/\
   ∀(j:Nat) d v,ds[j]? =some d->vs[j]? =some v->PV.At w ι X d v:=by
 intro xs
 induction xs with
 |nil=>
  intro ds h;cases ds with
  |nil=>exact⟨[],rfl,rfl,rfl,by simp⟩
  |cons _ _=>exact h.elim
 |cons x xs ih=>
  intro ds h;cases ds with
  |nil=>exact h.elim
  |cons d ds=>
   obtain⟨h1,h2⟩:=h;obtain⟨v,hr,hv⟩:=Zuf (P:=P) hS h1;obtain⟨vs,hrs,hl,hl2,hvs⟩:=ih ds h2;refine⟨v::vs,?_,by simp[hl],by simp[hl2],λ j e u hj hu=>?_⟩
   ·simp only[jU,Sem.run_bind,hr,Result.andThen_ok,hrs,Sem.run_pure]
   ·cases j with
    |zero=>simp at hj hu;subst hj;subst hu;exact hv
    |succ j=>exact hvs j e u (by simpa using hj) (by simpa using hu)
theorem ZCN {P:Program}{B X:Nat->Prop}{w0:W0}{w:World}{n:Nat}{S:St}{a:Act}{ι:Nat->Option Nat}(hS:Hold B X w0 n S a w ι){fn:Func}{r:PV}(h:ZkT P fn.results.toList r S):
  ∃v,(results fn a.tmps).run P w= .ok v w/\PV.At w ι X r v:=by
 generalize hrs:fn.results.toList=rs at h;have hmap:∀(vs:List Value),(rs.mapM (Zf8 a.tmps)).run P w= .ok vs w->
   (results fn a.tmps).run P w= .ok (if hh:vs.toArray.size=1 then vs.toArray[0]else .tuple vs.toArray) w:=by
  intro vs hvs;have:results fn a.tmps=(do let vs<-fn.results.mapM (Zf8 a.tmps);pure (if hh:vs.size=1 then vs[0]else .tuple vs)):=by
   unfold results
   first
    |rfl
    |(congr 1;done)
    |(congr 1;congr 1;funext x;cases x<;>rfl)
  rw[this,Array.mapM_eq_mapM_toList,hrs];simp only[Sem.run_bind,Sem.run_map,hvs,Result.andThen_ok,Sem.run_pure]
 match rs,h,hmap with
 |[],⟨ds,hr,hall⟩,hmap=>
  obtain⟨vs,h1,h2,h3,h4⟩:=Zud (P:=P) hS [] ds hall;refine⟨_,hmap vs h1,?_⟩;subst hr;rw[dif_neg (by simp;simp at h3;omega)];exact .tup ds vs.toArray (by simp[h2]) (λ j d v hj hv=>h4 j d v hj (by simpa using hv))
 |[x],h,hmap=>
  obtain⟨v,h1,h2⟩:=Zuf (P:=P) hS h;refine⟨v,?_,h2⟩;have:=hmap [v] (by simp only[jU,List.mapM_nil,Sem.run_bind,h1,Result.andThen_ok,Sem.run_pure]);simpa using this
 |x::y::zs,⟨ds,hr,hall⟩,hmap=>
  obtain⟨vs,h1,h2,h3,h4⟩:=Zud (P:=P) hS _ ds hall;refine⟨_,hmap vs h1,?_⟩;subst hr;rw[dif_neg (by simp at h3|-;omega)];exact .tup ds vs.toArray (by simp[h2]) (λ j d v hj hv=>h4 j d v hj (by simpa using hv))
theorem ZA2 {w:World}{ι:Nat->Option Nat}{X:Nat->Prop}{L:List Nat}{ι':Nat->Option Nat}(hκ:∀o∈L,ι' o=ι o)(sub:∀b,ownX ι' X b->ownX ι X b){o:Nat}{ob:Ob}(ho:o∈L)
  (hon:ob.only L=true)(h:Ob.At w ι X o ob):Ob.At w ι' X o ob:=by
 cases h with
 |dead hd=>exact .dead ((hκ o ho).trans hd)
 |gone=>exact .gone
 |cells cs b c T hι hb hsz hone hat=>
  simp only[Ob.only,uX]at hon;exact .cells cs b c T ((hκ o ho).trans hι) hb hsz hone λ j p v hj hv=>Zs7 hκ sub 4 p v (hon p (uA hj)) (hat j p v hj hv)
 |row0 sz hd=>exact .row0 sz ((hκ o ho).trans hd)
 |row sz l b c T hι hb hsz hcl hone hat=>exact .row sz l b c T ((hκ o ho).trans hι) hb hsz hcl hone λ i d j e v hi hj hv=>(hat i d j e v hi hj hv).sub sub
 |imap l b es clock hι hb he=>exact .imap l b es clock ((hκ o ho).trans hι) hb he
 |iter m k sn b bm hι hm hb=>
  simp only[Ob.only,yQ,uF]at hon;exact .iter m k sn b bm ((hκ o ho).trans hι) ((hκ m hon).trans hm) hb
theorem ZqD {P:Program}{f:FuncId}{fn:Func}{c:Code}{args:List PV}{M M':List (Nat×Ob)}{r:PV}(hf:P.funcs[f]? =some fn)(hb:fn.body=some c)(hn:(fn.name== "runtime.NumGoroutine")=false)(hl:args.length<=fn.ntmps)
  (hids:M'.map (·.1)=M.map (·.1))(hnd:(M.map (·.1)).Nodup)(hro:r.only (M.map (·.1)) 4=true)(hMo':(M'.all λ q=>q.2.only (M.map (·.1)))=true)
  (hpass:(M.all λ q=>(match q.2 with| .dead=>true|_=>false)||(decide (1000<=q.1)&&decide (q.1<2000)))=true)
  (h:∀B X w0,PW P B X w0 fn.ntmps c (ZpM P fn.results.toList r M') ⟨ZgT 0 args,Zap M⟩):Zag P f args M r M':=by
 refine⟨⟨fn,hf,by rw[hb];rfl,hn⟩,λ w ι X vs hX hinj hlt hsz hat hobs hdom htb=>?_⟩;refine calls_of_wp hf hb ?_;have hS:Hold (λ b=>b<w.heap.size/\∀o,ι o≠some b) X ((⟨w,ι,[]⟩:W0).of P) fn.ntmps ⟨ZgT 0 args,Zap M⟩ {tmps:=vs++Array.replicate (fn.ntmps-vs.size) undef,defers:=[]} w ι:=by
  refine⟨by simp;omega,rfl,⟨rfl,rfl,rfl,uJ _,λ _ _=>rfl⟩,λ _ h=>h.1,⟨hX,λ q hq=>⟨⟨(htb q hq).1,λ o ho=>(htb q hq).2.1 (.inr ⟨o,ho⟩)⟩,λ hx=>(htb q hq).2.1 (.inl hx),(htb q hq).2.2⟩⟩,hinj,λ o b ho=>⟨λ hB=>hB.2 o ho,hlt o b ho⟩,λ t=>?_,hobs,λ o b ho=>?_⟩
  ·simp only[Zwu,uH,if_true,zG];cases hd:args[t]? with
   |none=>exact .unk _
   |some d=>
    have hlt:t<vs.size:=by have:=(uB.1 hd).1;omega
    have hv:vs[t]? =some vs[t]:=uU hlt;have hg:(vs++Array.replicate (fn.ntmps-vs.size) undef).getD t undef=vs[t]:=by
     rw[qO,zM hlt,hv];rfl
    simp only[hg];exact hat t d _ hd hv
  ·refine⟨?_,ho,rfl⟩;have ho:ι o=some b:=ho;obtain⟨q,hq,rfl⟩:=uP.1 (hdom o b ho);simp only[uX,qZ,uL,uF]at hpass;rcases hpass q hq with h|h
   ·have hd:q.2= .dead:=by cases hq2:q.2<;>rw[hq2]at h<;>simp at h
    have:=hobs q.1;rw[Zig M hnd q hq,hd]at this;cases this with|dead h=>rw[h]at ho;cases ho
   ·exact h
 refine wp_mono (h _ X ⟨w,ι,[]⟩ _ w _ hS) ?_;rintro e a' w' ⟨S',ι',hq,hS'⟩;have fin:(ZkT P fn.results.toList r S'/\∀q∈M',S'.objs q.1=q.2)->a'.defers=[]/\∃v,(results fn a'.tmps).run P w'= .ok v w'/\
   (∃v' ι'',Ending.returned v= .returned v'/\PV.At w' ι'' X r v'/\(∀o,Ob.At w' ι'' X o (Zap M' o))/\(∀o b,ι'' o=some b->o∈M'.map (·.1))/\
    (∀o o' b,Zap M' o≠ .gone->Zap M' o'≠ .gone->ι'' o=some b->ι'' o'=some b->o=o')/\(∀o b,ι'' o=some b->¬X b/\((∃o',ι o'=some b)\/w.heap.size<=b)/\b<w'.heap.size)/\
    w'.os=w.os/\w'.tape=w.tape/\w'.output=w.output/\w.heap.size<=w'.heap.size/\
    (∀b,b<w.heap.size->(∀o,ι o≠some b)->w'.heap[b]? =w.heap[b]?)/\
    (∀o b,ι o=some b->ι'' o=some b/\bsz w' b=bsz w b)):=by
  rintro⟨hr,hM⟩;obtain⟨v,h1,h2⟩:=ZCN (P:=P) hS' hr;have subι:∀o b,(if o∈M.map (·.1)then ι' o else none)=some b->o∈M.map (·.1)/\ι' o=some b:=by
   intro o b h;split at h
   ·rename_i hm;exact⟨hm,h⟩
   ·cases h
  have sub:∀b,ownX (λ o=>if o∈M.map (·.1)then ι' o else none) X b->ownX ι' X b:=by
   rintro b (hb|⟨o,hb⟩)
   ·exact .inl hb
   ·exact .inr ⟨o,(subι o b hb).2⟩
  have hκ:∀o∈M.map (·.1),(λ o=>if o∈M.map (·.1)then ι' o else none) o=ι' o:=λ o ho=>if_pos ho
  have hMat:∀o∈M.map (·.1),S'.objs o=Zap M' o:=by
   intro o ho;have ho':o∈M'.map (·.1):=by rw[hids];exact ho
   obtain⟨q,hq,rfl⟩:=uP.1 ho';rw[Zig M' (by rw[hids];exact hnd) q hq,hM q hq]
  refine⟨hS'.defers,v,h1,v,λ o=>if o∈M.map (·.1)then ι' o else none,rfl,Zs7 hκ sub 4 r v hro h2,λ o=>?_,λ o b hb=>by rw[hids];exact(subι o b hb).1,
   λ o o' b f f' e e'=>hS'.inj o o' b (by rw[hMat o (subι o b e).1];exact f) (by rw[hMat o' (subι o' b e').1];exact f') (subι o b e).2 (subι o' b e').2,λ o b hb=>?_,hS'.frame.os,hS'.frame.tape,hS'.frame.output,hS'.frame.size,λ b hb hn=>hS'.frame.keep b ⟨hb,hn⟩,λ o b hb=>?_⟩
  ·by_cases ho:o∈M.map (·.1)
   ·have ho':o∈M'.map (·.1):=by rw[hids];exact ho
    obtain⟨q,hq,rfl⟩:=uP.1 ho';rw[Zig M' (by rw[hids];exact hnd) q hq];simp only[uX]at hMo';have:=hS'.objs q.1;rw[hM q hq]at this;exact ZA2 hκ sub ho (hMo' q hq) this
   ·rw[Zi8 M' o (by rw[hids];exact ho)];exact .dead (if_neg ho)
  ·obtain⟨g1,g2⟩:=subι o b hb;obtain⟨f1,f2⟩:=hS'.free o b g2;refine⟨λ hx=>f1 (hX b hx),?_,f2⟩;by_cases hlt:b<w.heap.size
   ·left
    by_cases hex:∃o',ι o'=some b
    ·exact hex
    ·exact absurd ⟨hlt,λ o' ho'=>hex ⟨o',ho'⟩⟩ f1
   ·exact .inr (by omega)
  ·obtain⟨g1,g2,g3⟩:=hS'.stay o b hb;exact⟨(if_pos (hdom o b hb)).trans g2,g3⟩
 cases e with
 |normal=>exact fin hq
 |ret=>exact fin hq
 |_=>exact hq.elim
def Zof :List Nat->Bool
 |[]=>true
 |a::r=> !(r.any λ b=>Nat.beq a b)&&Zof r
theorem Zb0 {l:List Nat}(h:Zof l=true):l.Nodup:=by
 induction l with
 |nil=>exact zA
 |cons a r ih=>
  simp only[Zof,uL,yC,yS]at h;refine yW.2 ⟨λ hm=>h.1 a hm (by simp),ih h.2⟩
def gOf :List (Nat×Nat)->Nat->Nat
 |[],i=>i
 |(a,b)::r,i=>if i=a then b else gOf r i
theorem Zuo {P:Program}{own:Nat->Bool}{all rest:List Oper}{S:St}{fs:List Zbp}{K:St->List Zbp->Prop}{dst:Option Nat}{ty:TypeId}{pos:String}{af:Array Edge}{f:Operand}{as:Array Operand}{tys:Array TypeId}
  (σ:List (Nat×Nat)){h:FuncId}{caps args:List PV}{M M':List (Nat×Ob)}{r:PV}(hc:Zag P h args M r M')(hf:ZgW (S.ev f)=some (h,caps))
  (hids:M'.map (·.1)=M.map (·.1))(hao:(args.all (PV.only (M.map (·.1)) 4))=true)(hMo:(M.all λ q=>q.2.only (M.map (·.1)))=true)
  (hro:r.only (M.map (·.1)) 4=true)(hMo':(M'.all λ q=>q.2.only (M.map (·.1)))=true)(hnd:(M.map λ q=>gOf σ q.1).Nodup)
  (hng:∀q∈M,q.2≠ .gone/\(2000<=q.1->q.2= .dead))
  (hx:Zfl S.objs (gOf σ) False (as.toList.map S.ev++caps) args)(hobs:∀q∈M,S.objs (gOf σ q.1)=q.2.ren (gOf σ))
  (hk:Zad P own all rest (S.app dst ⟨r.ren (gOf σ),ZcA (gOf σ) M',(as.toList.map S.ev++caps).flatMap (PV.refs S.objs 4)⟩) (((as.toList.map S.ev++caps).flatMap (PV.refs S.objs 4),(ZcA (gOf σ) M').map (·.1))::fs) K):
  Zad P own all (⟨dst, .call ⟨.value f,as,tys⟩,ty,pos,af,none⟩::rest) S fs K:=
 Zun _ ⟨⟨h,caps,args,M,M',r,gOf σ,False,hf,hx,hc,hids,hao,hMo,hro,hMo',hnd,hobs,λ q hq=>(hng q hq).2,λ q hq=>(hng q hq).1,λ h=>h.elim,rfl⟩⟩ hk
theorem ZC9 {P:Program}{own:Nat->Bool}{all rest:List Oper}{S:St}{fs:List Zbp}{K:St->List Zbp->Prop}{dst:Option Nat}{ty:TypeId}{pos:String}{af:Array Edge}{f:Operand}{as:Array Operand}{tys:Array TypeId}
  (σ:List (Nat×Nat)){h:FuncId}{caps args:List PV}{M M':List (Nat×Ob)}{r:PV}(hc:Zag P h args M r M')(hf:ZgW (S.ev f)=some (h,caps))
  (hids:M'.map (·.1)=M.map (·.1))(hao:(args.all (PV.only (M.map (·.1)) 4))=true)(hMo:(M.all λ q=>q.2.only (M.map (·.1)))=true)
  (hro:r.only (M.map (·.1)) 4=true)(hMo':(M'.all λ q=>q.2.only (M.map (·.1)))=true)(hnd:(M.map λ q=>gOf σ q.1).Nodup)
  (hng:∀q∈M,q.2≠ .gone/\(2000<=q.1->q.2= .dead))(hfl:ZkO r M M')
  (hx:Zfl S.objs (gOf σ) True (as.toList.map S.ev++caps) args)(hobs:∀q∈M,S.objs (gOf σ q.1)=q.2.ren (gOf σ))
  (hre:((as.toList.map S.ev++caps).all λ x=>(x.refs S.objs 4).all λ o=> !(M.map λ q=>gOf σ q.1).contains o)=true)
  (hk:Zad P own all rest (S.app dst ⟨r.ren (gOf σ),ZcA (gOf σ) M',(as.toList.map S.ev++caps).flatMap (PV.refs S.objs 4)⟩) (((as.toList.map S.ev++caps).flatMap (PV.refs S.objs 4),(ZcA (gOf σ) M').map (·.1))::fs) K):
  Zad P own all (⟨dst, .call ⟨.value f,as,tys⟩,ty,pos,af,none⟩::rest) S fs K:=
 Zun _ ⟨⟨h,caps,args,M,M',r,gOf σ,True,hf,hx,hc,hids,hao,hMo,hro,hMo',hnd,hobs,λ q hq=>(hng q hq).2,λ q hq=>(hng q hq).1,λ _=>⟨hfl,λ x hx o ho=>by
  simp only[uX,yQ,yC,qC]at hre;exact hre x hx o ho⟩,rfl⟩⟩ hk
theorem Znu {S:St}(σ:List (Nat×Nat))(L:List (Nat×PV))(M:List (Nat×Ob))(h1:∀p∈L,S.env p.1=p.2.ren (gOf σ))(h2:∀q∈M,S.objs (gOf σ q.1)=q.2.ren (gOf σ))
  (h3:(L.all λ p=>p.2.only (M.map (·.1)) 4)=true)(h4:(M.all λ q=>q.2.only (M.map (·.1)))=true)(h5:(M.map λ q=>gOf σ q.1).Nodup)
  (h6:(M.all λ q=>((decide (q.1<1000)||decide (2000<=q.1))&&(decide (gOf σ q.1<1000)||decide (2000<=gOf σ q.1)))||decide (gOf σ q.1=q.1))=true)(h7:Zb5 (M.map (·.1)) S.objs):Ent S ⟨Zbz L,Zap M⟩:=by
 intro B X w0 n a w ι hS;simp only[uX,qZ,uL,uF]at h3 h4 h6;have h6':∀o∈M.map (·.1),((o<1000\/2000<=o)/\(gOf σ o<1000\/2000<=gOf σ o))\/gOf σ o=o:=by
  intro o ho;obtain⟨q,hq,rfl⟩:=uP.1 ho;exact h6 q hq
 have hinj:∀i∈M.map (·.1),∀j∈M.map (·.1),gOf σ i=gOf σ j->i=j:=by
  have:∀(M:List (Nat×Ob)),(M.map λ q=>gOf σ q.1).Nodup->∀i∈M.map (·.1),∀j∈M.map (·.1),gOf σ i=gOf σ j->i=j:=by
   intro M
   induction M with
   |nil=>intro _ i hi;cases hi
   |cons p M ih=>
    intro hn i hi j hj he;simp only[uT,yW]at hn;simp only[uT,yF]at hi hj;have key:∀j∈M.map (·.1),gOf σ p.1≠gOf σ j:=by
     intro j hj he;obtain⟨q,hq,rfl⟩:=uP.1 hj;exact hn.1 (uP.2 ⟨q,hq,he.symm⟩)
    rcases hi with rfl|hi<;>rcases hj with rfl|hj
    ·rfl
    ·exact absurd he (key j hj)
    ·exact absurd he.symm (key i hi)
    ·exact ih hn.2 i hi j hj he
  exact this M h5
 let ι':Nat->Option Nat:=λ o=>if o∈M.map (·.1)then ι (gOf σ o)else none
 have hκ:∀o∈M.map (·.1),ι' o=ι (gOf σ o):=λ o ho=>if_pos ho
 have sub:∀o b,ι' o=some b->o∈M.map (·.1)/\ι (gOf σ o)=some b:=by
  intro o b h;by_cases ho:o∈M.map (·.1)
  ·rw[hκ o ho]at h;exact⟨ho,h⟩
  ·simp only[ι',if_neg ho]at h;cases h
 have subX:∀b,ownX ι' X b->ownX ι X b:=by
  rintro b (hb|⟨o,hb⟩)
  ·exact .inl hb
  ·exact .inr ⟨_,(sub o b hb).2⟩
 have live:∀o∈M.map (·.1),Zap M o≠ .gone->S.objs (gOf σ o)≠ .gone:=by
  intro o ho hg;rcases Zki M o with⟨h,hno⟩|⟨p,hp,h⟩
  ·exact absurd ho hno
  ·rw[h2 (o,p) hp];rw[h]at hg;exact λ he=>hg (Zkx.1 he)
 refine⟨ι',hS.size,hS.defers,hS.frame,hS.hB,hS.hXB,λ o o' b f f' e e'=>?_,λ o b e=>hS.free _ b (sub o b e).2,λ t=>?_,λ o=>?_,λ o b hb=>?_⟩
 ·obtain⟨g1,g2⟩:=sub o b e;obtain⟨g3,g4⟩:=sub o' b e';exact hinj o g1 o' g3 (hS.inj _ _ b (live o g1 f) (live o' g3 f') g2 g4)
 ·rcases Zls L t with h|⟨p,hp,h⟩
  ·simp only[h];exact .unk _
  ·simp only[h];have:=hS.env t;rw[h1 (t,p) hp]at this;exact ZoO hκ subX 4 p _ (h3 (t,p) hp) this
 ·rcases Zki M o with⟨h,hno⟩|⟨p,hp,h⟩
  ·simp only[h];exact .dead (if_neg hno)
  ·simp only[h];have hmem:o∈M.map (·.1):=uP.2 ⟨(o,p),hp,rfl⟩;have ho:=hS.objs (gOf σ o);rw[h2 (o,p) hp]at ho;exact Zt9 hκ subX hmem (h4 (o,p) hp) ho
 ·obtain⟨g1,g2,g3⟩:=hS.stay o b hb;refine⟨g1,?_,g3⟩;by_cases ho:o∈M.map (·.1)
  ·rw[hκ o ho];rcases h6' o ho with h|h
   ·omega
   ·rw[h];exact g2
  ·have:=hS.dead (h7 o g1.1 g1.2 ho);rw[this]at g2;cases g2
theorem Zq8 {S:St}(σ:List (Nat×Nat))(L:List (Nat×PV))(M:List (Nat×Ob))(h1:∀p∈L,S.env p.1=p.2.ren (gOf σ))(h2:∀q∈M,S.objs (gOf σ q.1)=q.2.ren (gOf σ))
  (h3:(L.all λ p=>p.2.only (M.map (·.1)) 4)=true)(h4:(M.all λ q=>q.2.only (M.map (·.1)))=true)(h5:(M.map λ q=>gOf σ q.1).Nodup)
  (h6:(M.all λ q=>((decide (q.1<1000)||decide (2000<=q.1))&&(decide (gOf σ q.1<1000)||decide (2000<=gOf σ q.1)))||decide (gOf σ q.1=q.1))=true)(h7:Zb5 (M.map (·.1)) S.objs):ZgQ S L M:=
 Znu σ L M h1 h2 h3 h4 h5 h6 h7
theorem Zg0 {S S':St}:Ent S S'↔∀(B X:Nat->Prop) (w0:W0) (n:Nat) (a:Act) (w:World) (ι:Nat->Option Nat),Hold B X w0 n S a w ι->∃ι',Hold B X w0 n S' a w ι':=Iff.rfl
attribute [irreducible] PW Ent ZgQ
end Go.PS
