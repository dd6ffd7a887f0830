/- A region, in whatever order the model draws. -/
import Derived.Test.YtjjbhjnpeenbkaaGreatDoorPSRegion2
set_option linter.unusedSimpArgs false
set_option linter.unusedVariables false
set_option maxHeartbeats 16000000
namespace Go.PS
open Go
section
variable {P:Program}{own:Nat->Bool}{objs objs':Nat->Ob}{B X:Nat->Prop}{w0:W0}{w:World}{n:Nat}{S:St}{a:Act}{ι:Nat->Option Nat}{ops:Array Oper}
theorem Zww {g:Nat->Nat}{fl:Prop}:∀(xs ps:List PV),(∀o∈xs.flatMap (PV.refs objs 4),objs' o=objs o)->Zfl objs g fl xs ps->Zfl objs' g fl xs ps:=by
 intro xs
 induction xs with
 |nil=>intro ps _ h;cases ps with
       |nil=>trivial
       |cons=>exact h.elim
 |cons x xs ih=>
  intro ps hr h;cases ps with
  |nil=>exact h.elim
  |cons p ps=>
   simp only[gK,yK]at hr;obtain⟨h1,h2⟩:=Zmn (objs:=objs) (objs':=objs') 4 x (λ o ho=>hr o (.inl ho));refine⟨?_,ih ps (λ o ho=>hr o (.inr ho)) h.2⟩;rw[h1,h2];exact h.1
theorem ZqB {f:PV}{xs:List PV}{e:Eff}(ha:ZcZ e objs objs')(h:CallCondM P objs f xs e):CallCondM P objs' f xs e:=by
 obtain⟨h,caps,args,M,M',r,g,fl,hfv,hargs,hcalls,hids,hao,hMo,hro,hMo',hnd,hobs,h2000,hng,hflat,rfl⟩:=h;have hrd:∀o∈(xs++caps).flatMap (PV.refs objs 4),objs' o=objs o:=ha.1;refine⟨h,caps,args,M,M',r,g,fl,hfv,Zww _ _ hrd hargs,hcalls,hids,hao,hMo,hro,hMo',hnd,λ q hq=>?_,h2000,hng,λ hfl=>⟨(hflat hfl).1,λ x hx o ho=>?_⟩,?_⟩
 ·rw[<-hobs q hq];have hq':q.1∈M'.map (·.1):=by rw[hids];exact jR hq
  obtain⟨q',hq',he⟩:=uP.1 hq';have:=ha.2 (g q'.1,q'.2.ren g) (uP.2 ⟨q',hq',rfl⟩);rw[<-he];exact this
 ·have:=(Zmn (objs:=objs) (objs':=objs') 4 x (λ o ho=>hrd o (kU.2 ⟨x,hx,ho⟩))).2;rw[this]at ho;exact(hflat hfl).2 x hx o ho
 ·rw[(Zpl (objs:=objs) (objs':=objs') 4 _ hrd).2]
theorem ZqV {o:Oper}{S S':St}{e:Eff}(hev:∀x∈o.op.operands,S'.ev x=S.ev x)(ha:ZcZ e S.objs S'.objs)(h:ZhJ P own o S e):ZhJ P own o S' e:=by
 obtain⟨dst,op,ty,pos,af,gd⟩:=o;simp only at hev;have plain:(sem P own S.ev S.objs dst op).1/\e=(sem P own S.ev S.objs dst op).2->(sem P own S'.ev S'.objs dst op).1/\e=(sem P own S'.ev S'.objs dst op).2:=by
  rintro⟨h1,rfl⟩;rw[ZDD hev h1 ha];exact⟨h1,rfl⟩
 cases op with
 |call c=>
  obtain⟨cal,as,tys⟩:=c;cases cal with
  |value f=>
   have hf:S'.ev f=S.ev f:=hev f (by simp[Op.operands,Call.operands]);have hm:as.toList.map S'.ev=as.toList.map S.ev:=yM λ x hx=>hev x (by simp[Op.operands,Call.operands];right;simpa using hx)
   rcases h.symm with hc|⟨r,hc,rfl⟩
   ·refine .inr ?_;show CallCondM P S'.objs (S'.ev f) (as.toList.map S'.ev) e;rw[hf,hm];exact ZqB ha hc
   obtain⟨h1,h2⟩:=Zpl (objs:=S.objs) (objs':=S'.objs) 4 (as.toList.map S.ev) ha.1;refine .inl ⟨r,?_,?_⟩
   ·unfold Zjy at hc|-;rw[hf,hm,h1,h2];exact hc
   ·simp only[hm,h2]
  |builtin b=>exact plain h
  |invoke r m=>
   have hr:S'.ev r=S.ev r:=hev r (by simp[Op.operands,Call.operands]);have hm:as.toList.map S'.ev=as.toList.map S.ev:=yM λ x hx=>hev x (by simp[Op.operands,Call.operands];right;simpa using hx)
   obtain⟨g,recv,rd,e',hI,hc,rfl⟩:=h;refine⟨g,recv,rd,e',?_,?_,rfl⟩
   ·show Inv P S'.objs (S'.ev r) m g recv rd;rw[hr];obtain⟨T,o,h1,h2⟩:=hI;refine⟨T,o,h1,h2.imp id ?_⟩;rintro⟨t,g1,g2,g3,rfl⟩;have ho:S'.objs o=S.objs o:=ha.1 o (by simp);have e1:Zdc (tyi P t) S'.objs (.ptr o 0 0 0)=Zdc (tyi P t) S.objs (.ptr o 0 0 0):=by simp only[Zdc,ho]
    exact⟨t,g1,by rw[e1];exact g2,by rw[e1];exact g3,rfl⟩
   ·show CallCondM P S'.objs (.d (.fn g [])) (recv::as.toList.map S'.ev) e';rw[hm];exact ZqB ⟨λ o ho=>ha.1 o (Aq _ ho),ha.2⟩ hc
 |_=>exact plain h
theorem ZqX {all:List Oper}{o:Oper}{S S':St}{e:Eff}(hev:∀x∈o.op.operands,S'.ev x=S.ev x)(hgd:∀j w,o.guard=some (j,w)->grd all S' j=grd all S j)(ha:ZcZ e S.objs S'.objs)
  (h:Zds P own all o S e):Zds P own all o S' e:=by
 unfold Zds at h|-;cases hg:o.guard with
 |none=>rw[hg]at h;exact ZqV hev ha h
 |some q=>
  obtain⟨j,want⟩:=q;rw[hg]at h;obtain⟨b,hb,h⟩:=h;refine⟨b,(hgd j want hg).trans hb,?_⟩;by_cases hw:b=some want
  ·rw[if_pos hw]at h|-;exact ZqV hev ha h
  ·rw[if_neg hw]at h|-;exact h
def ZjJ (ops:Array Oper)(x y:Oper)(fx fy:Zbp):Bool:=
 x.apart ops y&&fx.2.all (λ o=> !fy.1.contains o&& !fy.2.contains o)&&fy.2.all (λ o=> !fx.1.contains o)
theorem Zp4 {S:St}{dst:Option Nat}{e:Eff}(t:Nat)(h:dst≠some t):(S.app dst e).env t=S.env t:=by
 unfold St.app;cases dst with
 |none=>rfl
 |some d=>exact if_neg (λ he=>h (by rw[he]))
theorem Zk5 {S:St}{dst:Option Nat}{e:Eff}(o:Nat)(h:o∉e.wr.map (·.1)):(S.app dst e).objs o=S.objs o:=ZkL _ _ o h
theorem Zrc {ops:Array Oper}{S:St}{dst:Option Nat}{e:Eff}{y:Oper}(h:∀d,dst=some d->d∉y.looksAt ops):∀x∈y.op.operands,(S.app dst e).ev x=S.ev x:=by
 intro x hx;cases x with
 |tmp t=>
  refine Zp4 t (λ he=>h t he ?_);simp only[Oper.looksAt,yK,List.mem_filterMap];exact .inl ⟨.tmp t,by simpa using hx,rfl⟩
 |_=>rfl
theorem ZrK {ops:Array Oper}{S:St}{dst:Option Nat}{e:Eff}{y:Oper}(h:∀d,dst=some d->d∉y.looksAt ops):∀j w,y.guard=some (j,w)->grd ops.toList (S.app dst e) j=grd ops.toList S j:=by
 intro j wnt hg;unfold grd;simp only[qS];cases ht:(ops[j]?).bind (·.dst)with
 |none=>rfl
 |some t=>
  simp only;rw[Zp4 t];intro he;refine h t he ?_;simp only[Oper.looksAt,yK,hg]
  right
  simp only[ht,Option.toList_some,uS]
theorem ZFN {objs:Nat->Ob}{o:Nat}{ob:Ob}:∀(l:List (Nat×Ob)),o∉l.map (·.1)->wrs l (upd o ob objs)=upd o ob (wrs l objs):=by
 intro l
 induction l with
 |nil=>intro _;rfl
 |cons q l ih=>
  intro h;simp only[uT,yF,not_or]at h;show upd q.1 q.2 (wrs l (upd o ob objs))=upd o ob (upd q.1 q.2 (wrs l objs));rw[ih h.2]
  funext i
  simp only[upd];by_cases c1:i=q.1
  ·subst c1;rw[if_pos rfl,if_neg (λ he=>h.1 he.symm),if_pos rfl]
  ·rw[if_neg c1,if_neg c1]
theorem ZFL :∀(l1 l2:List (Nat×Ob)) (objs:Nat->Ob),(∀o∈l1.map (·.1),o∉l2.map (·.1))->wrs l2 (wrs l1 objs)=wrs l1 (wrs l2 objs):=by
 intro l1
 induction l1 with
 |nil=>intro l2 objs _;rfl
 |cons q l1 ih=>
  intro l2 objs h;show wrs l2 (upd q.1 q.2 (wrs l1 objs))=upd q.1 q.2 (wrs l1 (wrs l2 objs));rw[ZFN l2 (h q.1 (by simp)),ih l2 objs (λ o ho=>h o (by simp only[uT,yF];exact .inr ho))]
theorem Zwo {S:St}{d1 d2:Option Nat}{e1 e2:Eff}(hd:∀d,d1=some d->d2≠some d)(hw:∀o∈e1.wr.map (·.1),o∉e2.wr.map (·.1)):
  (S.app d1 e1).app d2 e2=(S.app d2 e2).app d1 e1:=by
 unfold St.app;simp only
 congr 1
 ·cases d1 with
  |none=>rfl
  |some t1=>
   cases d2 with
   |none=>rfl
   |some t2=>
    have hne:t1≠t2:=λ he=>hd t1 rfl (by rw[he])
    funext i
    simp only[upd];by_cases c1:i=t1
    ·subst c1;rw[if_neg hne,if_pos rfl,if_pos rfl]
    ·rw[if_neg c1,if_neg c1]
 ·exact ZFL _ _ _ hw
theorem swap {x y:Oper}{ex ey:Eff}{S:St}(hx:Zds P own ops.toList x S ex)(hy:Zds P own ops.toList y (S.app x.dst ex) ey)(hc:ZjJ ops x y ex.foot ey.foot=true):
  Zds P own ops.toList y S ey/\Zds P own ops.toList x (S.app y.dst ey) ex/\(S.app x.dst ex).app y.dst ey=(S.app y.dst ey).app x.dst ex:=by
 unfold ZjJ at hc;simp only[uL,Eff.foot,yC,uX]at hc;obtain⟨⟨hap,h1⟩,h2⟩:=hc;obtain⟨p1,p2,p3⟩:=Oper.apart_spec hap;have w1:∀o∈ex.wr.map (·.1),o∉ey.rd/\o∉ey.wr.map (·.1):=by
  intro o hw;have:=h1 o hw;simp only[yQ,qC]at this;exact this
 have w2:∀o∈ey.wr.map (·.1),o∉ex.rd:=by
  intro o hw;have:=h2 o hw;simpa using this
 have agy:ZcZ ey (S.app x.dst ex).objs S.objs:=
  ⟨λ o ho=>(Zk5 o (λ hw=>(w1 o hw).1 ho)).symm,λ q hq=>(Zk5 q.1 (λ hw=>(w1 q.1 hw).2 (jR hq))).symm⟩
 have agx:ZcZ ex S.objs (S.app y.dst ey).objs:=
  ⟨λ o ho=>Zk5 o (λ hw=>w2 o hw ho),λ q hq=>Zk5 q.1 (λ hw=>(w1 q.1 (jR hq)).2 hw)⟩
 exact⟨ZqX (λ q hq=>(Zrc p1 q hq).symm) (λ j w hg=>(ZrK p1 j w hg).symm) agy hy,ZqX (Zrc p3) (ZrK p3) agx hx,
  Zwo p2 (λ o ho=>(w1 o ho).2)⟩
def Zix (P:Program)(own:Nat->Bool)(ops:Array Oper)(E:Nat->Eff):List Nat->St->St->Prop
 |[],S,S'=>S'=S
 |i::rest,S,S'=>∃o,ops[i]? =some o/\Zds P own ops.toList o S (E i)/\Zix P own ops E rest (S.app o.dst (E i)) S'
theorem ZDk {all:List Oper}:∀(l:List Oper) (S S':St) (fs:List Zbp),ZkU P own all l S S' fs->∃es:List Eff,es.length=l.length/\fs=es.map Eff.foot/\
  ∀(E:Nat->Eff) (k:Nat) (ops:Array Oper),ops.toList=all->(∀j o,l[j]? =some o->ops[k+j]? =some o)->(∀j e,es[j]? =some e->E (k+j)=e)->Zix P own ops E (List.range' k l.length) S S':=by
 intro l
 induction l with
 |nil=>rintro S S' fs ⟨rfl,rfl⟩;exact⟨[],rfl,rfl,λ E k ops _ _ _=>rfl⟩
 |cons o rest ih=>
  rintro S S' fs ⟨e,fs',h1,h2,rfl⟩;obtain⟨es,hl,rfl,hr⟩:=ih _ _ _ h2;refine⟨e::es,by simp[hl],rfl,λ E k ops hall hops hE=>?_⟩;simp only[yB,List.range'_succ];have hEk:E k=e:=hE 0 e rfl;refine⟨o,hops 0 o rfl,by rw[hall,hEk];exact h1,?_⟩;rw[hEk];exact hr E (k+1) ops hall (λ j q hj=>by rw[show k+1+j=k+(j+1) by omega];exact hops (j+1) q (by simpa using hj)) (λ j q hj=>by rw[show k+1+j=k+(j+1) by omega];exact hE (j+1) q (by simpa using hj))
theorem Zlw {E:Nat->Eff}{k:Nat}{ok:Oper}(hk:ops[k]? =some ok):∀(pre post:List Nat) (S Sf:St),Zix P own ops E (pre++k::post) S Sf->(∀i∈pre,∀oi,ops[i]? =some oi->ZjJ ops oi ok (E i).foot (E k).foot=true)->
  Zds P own ops.toList ok S (E k)/\Zix P own ops E (pre++post) (S.app ok.dst (E k)) Sf:=by
 intro pre
 induction pre with
 |nil=>
  rintro post S Sf ⟨o,ho,h1,h2⟩ _;rw[hk]at ho;cases ho;exact⟨h1,h2⟩
 |cons i pre ih=>
  rintro post S Sf ⟨o,ho,h1,h2⟩ hc;obtain⟨h3,h4⟩:=ih post _ Sf h2 (λ j hj=>hc j (uO _ hj));obtain⟨g1,g2,g3⟩:=swap h1 h3 (hc i (by simp) o ho);refine⟨g1,o,ho,g2,?_⟩;rw[<-g3];exact h4
theorem ZwO (ops:Array Oper)(Ls:Nat->Prop)(hcl:∀k o,Ls k->ops[k]? =some o->∀e∈o.after,Region.binds .any e=true->e.on<k/\Ls e.on):
  ∀k o,ops[k]? =some o->(∀e∈o.after,Region.binds .any e=true->e.on<k/\Ls e.on)->∀i,((Region.before ops).getD k 0).testBit i=true->Ls i:=by
 have main:∀(l:List Oper) (m:Nat) (acc:Array Nat),acc.size=m->(∀j o,l[j]? =some o->ops[m+j]? =some o)->
   (∀k o,k<m->ops[k]? =some o->(∀e∈o.after,Region.binds .any e=true->e.on<k/\Ls e.on)->∀i,(acc.getD k 0).testBit i=true->Ls i)->
   ∀k o,k<m+l.length->ops[k]? =some o->(∀e∈o.after,Region.binds .any e=true->e.on<k/\Ls e.on)->
    ∀i,((l.foldl (λ acc o=>acc.push (o.after.foldl (λ s e=>if Region.binds .any e then s|||2^e.on|||acc.getD e.on 0 else s) 0)) acc).getD k 0).testBit i=true->Ls i:=by
  intro l
  induction l with
  |nil=>intro m acc _ _ hacc k o hk;simpa using hacc k o (by simpa using hk)
  |cons q l ih=>
   intro m acc hm hl hacc k o hk;simp only[jF];refine ih (m+1) _ (by simp[hm]) (λ j o' hj=>by rw[show m+1+j=m+(j+1) by omega];exact hl (j+1) o' (by simpa using hj)) ?_ k o (by simp at hk;omega);intro k o hk hok he i hi;by_cases hkm:k<m
   ·refine hacc k o hkm hok he i ?_;rw[qO,Array.getElem?_push,if_neg (by omega)]at hi;rw[qO];exact hi
   ·have hkm:k=m:=by omega
    subst hkm;have hq:ops[k]? =some q:=by have:=hl 0 q rfl;simpa using this
    rw[hq]at hok;cases hok;rw[qO,Array.getElem?_push,if_pos hm.symm]at hi;simp only[yN]at hi;rw[<-Array.foldl_toList]at hi;have fold:∀(es:List Edge) (s:Nat),(∀e∈es,Region.binds .any e=true->e.on<k/\Ls e.on)->(s.testBit i=true->Ls i)->(es.foldl (λ s e=>if Region.binds .any e then s|||2^e.on|||acc.getD e.on 0 else s) s).testBit i=true->Ls i:=by
     intro es
     induction es with
     |nil=>intro s _ hs h;exact hs h
     |cons e es ihe=>
      intro s hes hs h;simp only[jF]at h;refine ihe _ (λ e' he'=>hes e' (uO _ he')) ?_ h;intro h';split at h'
      ·rename_i hb;simp only[Nat.testBit_or,qZ]at h';obtain⟨hlt,hLs⟩:=hes e (by simp) hb;rcases h' with(h'|h')|h'
       ·exact hs h'
       ·have:i=e.on:=by
         rw[Nat.testBit_two_pow]at h';simpa[eq_comm]using h'
        rw[this];exact hLs
       ·have hsome:e.on<ops.size:=by
         have:=(gB.1 hq).1;omega
        exact hacc e.on ops[e.on] hlt (uU hsome) (hcl e.on _ hLs (uU hsome)) i h'
      ·exact hs h'
    exact fold _ 0 (λ e he'=>he e (by simpa using he')) (by simp) hi
 intro k o hok he i hi;unfold Region.before at hi;rw[<-Array.foldl_toList]at hi;have hk:=(gB.1 hok).1;exact main ops.toList 0 #[] rfl (λ j o' hj=>by simpa using hj) (λ k o hk=>by omega) k o (by simpa using hk) hok he i hi
def Zih (n:Nat)(ops:Array Oper)(draw:Bool)(fs:List Zbp):Bool:=
 ops.toList.all (Oper.plain n)&&
 (!draw||(ops.toList.zipIdx.all (λ q=>q.1.after.toList.all λ e=> !Region.binds .any e||decide (e.on<q.2))&&
  (List.range ops.size).all λ k=>(List.range k).all λ i=>((Region.before ops).getD k 0).testBit i||(match ops[i]?,ops[k]? with
   |some x,some y=>ZjJ ops x y (fs.getD i ([],[])) (fs.getD k ([],[]))
   |_,_=>false)))
end
section
variable {P:Program}{own:Nat->Bool}{B X:Nat->Prop}{w0:W0}{w:World}{n:Nat}{S:St}{a:Act}{ι:Nat->Option Nat}{ops:Array Oper}
def left (ops:Array Oper)(listed:Array Bool):List Nat:=(List.range ops.size).filter λ i=> !listed.getD i true
theorem Zsi (listed:Array Bool):(left ops listed).Pairwise (·<·):=Cg _ kK
theorem Zka {listed:Array Bool}{i:Nat}:i∈left ops listed↔i<ops.size/\listed.getD i true=false:=by
 simp[left]
theorem Zwn (htb:w0.tabs=tabs P)(E:Nat->Eff){Sf:St}{Q:Exit->Act->World->Prop}(hpl:∀o∈ops.toList,Oper.plain n o=true)
  (hedge:∀k o,ops[k]? =some o->∀e∈o.after,Region.binds .any e=true->e.on<k)
  (hcomp:∀k i x y,i<k->ops[i]? =some x->ops[k]? =some y->((Region.before ops).getD k 0).testBit i=true\/ZjJ ops x y (E i).foot (E k).foot=true)
  (hQ:∀a' w' ι',Hold B X w0 n Sf a' w' ι'->Q .normal a' w'):
  ∀(fuel:Nat) (listed:Array Bool) (S:St) (a:Act) (w:World) (ι:Nat->Option Nat),listed.size=ops.size->(left ops listed).length<=fuel->
   (∀k o,listed.getD k true=true->ops[k]? =some o->∀e∈o.after,Region.binds .any e=true->listed.getD e.on false=true)->
   Zix P own ops E (left ops listed) S Sf->Hold B X w0 n S a w ι->wpAny P .any ops Q fuel listed a w:=by
 intro fuel;have getDs:∀(listed:Array Bool) (i:Nat),i<listed.size->listed.getD i true=listed.getD i false:=λ listed i hi=>by simp[Array.getD,hi]
 have ready_sub:∀(listed:Array Bool) (i:Nat),i∈Region.ready .any ops listed->i∈left ops listed/\∀o,ops[i]? =some o->∀e∈o.after,Region.binds .any e=true->listed.getD e.on false=true:=by
  intro listed i hi;simp only[Region.ready,zQ,uZ,uL,yC]at hi;refine⟨Zka.2 ⟨hi.1,hi.2.1⟩,λ o ho e he hb=>?_⟩;have h:=hi.2.2;rw[ho]at h;simp only[qB,yN,jM]at h;have:=h e he;rw[hb]at this;simpa using this
 induction fuel with
 |zero=>
  intro listed S a w ι hsz hl hcl hr hS;have h0:left ops listed=[]:=qI (by omega);rw[h0]at hr;cases hr;refine⟨?_,hQ _ _ _ hS⟩;rw[List.eq_nil_iff_forall_not_mem];intro i hi;have:=(ready_sub listed i hi).1;rw[h0]at this;cases this
 |succ fuel ih=>
  intro listed S a w ι hsz hl hcl hr hS;refine⟨λ hnil=>?_,λ i hi=>?_⟩
  ·cases hL:left ops listed with
   |nil=>rw[hL]at hr;cases hr;exact hQ _ _ _ hS
   |cons k rest=>
    exfalso;have hk:k∈left ops listed:=by rw[hL];simp
    obtain⟨hk1,hk2⟩:=Zka.1 hk;have:k∈Region.ready .any ops listed:=by
     simp only[Region.ready,zQ,uZ,uL,yC];refine⟨hk1,hk2,?_⟩;rw[uU hk1];simp only[qB,yN,jM];intro e he;cases hb:Region.binds .any e with
     |false=>rfl
     |true=>
      have hlt:=hedge k _ (uU hk1) e he hb;have hnm:e.on∉left ops listed:=by
       intro hm;rw[hL]at hm;rcases yF.1 hm with h|h
       ·omega
       ·have hs:=Zsi (ops:=ops) listed;rw[hL]at hs;have:=(kV.1 hs).1 _ h;omega
      rw[Zka]at hnm;have h1:listed.getD e.on true=true:=by
       cases hq:listed.getD e.on true with
       |true=>rfl
       |false=>exact absurd ⟨by omega,hq⟩ hnm
      simpa[<-getDs listed e.on (by omega)]using h1
    rw[hnil]at this;cases this
  ·obtain⟨hmem,hpre⟩:=ready_sub listed i hi;obtain⟨hi1,hi2⟩:=Zka.1 hmem;have hio:ops[i]? =some ops[i]:=uU hi1;obtain⟨pre,post,hL⟩:=List.append_of_mem hmem;have hs:=Zsi (ops:=ops) listed;rw[hL]at hs hr;have hs2:=gE.1 hs;have hlt:∀j∈pre,j<i:=λ j hj=>hs2.2.2 j hj i (by simp)
   have hgt:∀j∈post,i<j:=λ j hj=>(kV.1 hs2.2.1).1 j hj
   obtain⟨hd,hrest⟩:=Zlw hio pre post S Sf hr (λ j hj oj hoj=>by
    rcases hcomp i j oj _ (hlt j hj) hoj hio with hb|hc
    ·exfalso;have:=ZwO ops (λ j=>listed.getD j false=true) (λ k o hk hko e he hb=>⟨hedge k o hko e he hb,hcl k o (by
       have hkk:k<listed.size:=by rw[hsz];exact(gB.1 hko).1
       rw[getDs listed k hkk];exact hk) hko e he hb⟩) i _ hio (λ e he hb=>⟨hedge i _ hio e he hb,hpre _ hio e he hb⟩) j hb
     have hjm:j∈left ops listed:=by rw[hL];simp[hj]
     obtain⟨hj1,hj2⟩:=Zka.1 hjm;rw[getDs listed j (by omega)]at hj2;rw[hj2]at this;cases this
    ·exact hc)
   have hleft:left ops (listed.setIfInBounds i true)=pre++post:=by
    have h1:left ops (listed.setIfInBounds i true)=(left ops listed).filter (λ j=>j != i):=by
     unfold left;rw[List.filter_filter];refine List.filter_congr (λ j hj=>?_);simp only[uZ]at hj;simp only[qO,zD,hsz];by_cases hji:i=j
     ·subst hji;simp[hi1]
     ·have hne:(j != i)=true:=by simpa[Cu]using Ne.symm hji
      simp[hji,hne]
    rw[h1,hL,gC,jP];simp only[bne_self_eq_false,qD,jA]
    congr 1
    ·refine Co.2 (λ j hj=>?_);have:=hlt j hj;simp only[Cu,ne_eq];omega
    ·refine Co.2 (λ j hj=>?_);have:=hgt j hj;simp only[Cu,ne_eq];omega
   refine ZqY htb hS hio (hpl _ (by simp)) hd (λ a' w' ι' h'=>?_);refine ih (listed.setIfInBounds i true) _ a' w' ι' (by simpa using hsz) ?_ ?_ ?_ h'
   ·rw[hleft];have:(left ops listed).length=pre.length+(post.length+1):=by rw[hL];simp
    simp only[uG];omega
   ·intro k o hk ho e he hb;have key:listed.getD e.on false=true:=by
     by_cases hki:i=k
     ·subst hki;rw[hio]at ho;cases ho;exact hpre _ hio e he hb
     ·refine hcl k o ?_ ho e he hb;rw[qO,zD,if_neg hki]at hk;rw[qO];exact hk
    rw[qO,zD];split
    ·split<;>simp_all
    ·rw[qO]at key;exact key
   ·rw[hleft];exact hrest
theorem ZEV (htb:w0.tabs=tabs P)(E:Nat->Eff){Sf:St}{Q:Exit->Act->World->Prop}(hpl:∀o∈ops.toList,Oper.plain n o=true)(hQ:∀a' w' ι',Hold B X w0 n Sf a' w' ι'->Q .normal a' w'):
  ∀(l:List Nat) (S:St) (a:Act) (w:World) (ι:Nat->Option Nat),Zix P own ops E l S Sf->Hold B X w0 n S a w ι->wpOps P ops Q l a w:=by
 intro l
 induction l with
 |nil=>rintro S a w ι h hS;cases h;exact hQ _ _ _ hS
 |cons i l ih=>
  rintro S a w ι ⟨o,ho,hd,hr⟩ hS;rw[wpOps_cons];exact ZqY htb hS ho (hpl o (by simpa using gY ho)) hd (λ a' w' ι' h'=>ih _ a' w' ι' hr h')
theorem ZCw (htb:w0.tabs=tabs P)(ZcT:P.follows .mixedOrders=true){id:Nat}{draw:Bool}{K:St->List Zbp->Prop}{Q:Exit->Act->World->Prop}(hS:Hold B X w0 n S a w ι)
  (hrun:Zad P own ops.toList ops.toList S [] K)(hK:∀Sf fs,K Sf fs->Zih n ops draw fs.reverse=true/\∀a' w' ι',Hold B X w0 n Sf a' w' ι'->Q .normal a' w'):
  (Code.region id ops draw).wp P Q a w:=by
 obtain⟨Sf,fs,hr,hk⟩:=ZDl _ _ _ _ hrun;obtain⟨hok,hQ⟩:=hK _ _ hk;simp only[yT,zB]at hok;obtain⟨es,hel,rfl,hri⟩:=ZDk _ _ _ _ hr;have hRI:=hri (λ i=>es.getD i default) 0 ops rfl (λ j o hj=>by simpa using hj) (λ j e hj=>by simp[List.getD,hj]);rw[<-List.range_eq_range']at hRI;simp only[Bj]at hRI hel;simp only[Zih,uL,uX]at hok;obtain⟨hpl,hdr⟩:=hok;cases draw with
 |false=>exact wp_region (ZEV htb _ hpl hQ _ S a w ι hRI hS)
 |true=>
  simp only[Ce,Bm,uL,uX,uZ]at hdr;obtain⟨hedge,hcomp⟩:=hdr;have hleft0:left ops (Array.replicate ops.size false)=List.range ops.size:=by
   unfold left;refine Co.2 (λ j hj=>?_);simp only[uZ]at hj;simp[Array.getD,hj]
  have hS':=hS.ext (w':={w with drawn:=w.drawn+1}) ⟨rfl,rfl,rfl,uJ _,λ _ _=>rfl⟩;refine wp_region_any ZcT (Zwn (own:=own) htb (λ i=>es.getD i default) hpl ?_ ?_ hQ ops.size _ S a _ ι (by simp) (by rw[hleft0];simp) ?_ (by rw[hleft0];exact hRI) hS')
  ·intro k o ho e he hb;have:=hedge (o,k) (by
    rw[List.mem_zipIdx_iff_getElem?];simpa using ho) e (by simpa using he)
   rw[hb]at this;simpa using this
  ·intro k i x y hik hx hy;have hk:=(gB.1 hy).1;have:=hcomp k hk i hik;rw[hx,hy]at this;simp only[qZ]at this;rcases this with h|h
   ·exact .inl h
   ·refine .inr ?_;have e1:∀j,j<ops.size->(es.map Eff.foot).getD j ([],[])=(es.getD j default).foot:=λ j hj=>by
     have:j<es.length:=by omega
     simp[List.getD,this]
    rw[e1 i (by omega),e1 k hk]at h;exact h
  ·intro k o hk ho;have hlt:=(gB.1 ho).1;simp[Array.getD,hlt]at hk
end
end Go.PS
