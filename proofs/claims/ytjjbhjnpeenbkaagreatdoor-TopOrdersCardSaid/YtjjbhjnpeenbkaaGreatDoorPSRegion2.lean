/- One operation of a region in the model; two operations that do not touch each other. -/
import Derived.Test.YtjjbhjnpeenbkaaGreatDoorPSOpsC
set_option linter.unusedSimpArgs false
set_option linter.unusedVariables false
set_option maxHeartbeats 16000000
namespace Go.PS
open Go
section
variable {P:Program}{own:Nat->Bool}{objs objs':Nat->Ob}{B X:Nat->Prop}{w0:W0}{w:World}{n:Nat}{S:St}{a:Act}{ι:Nat->Option Nat}{ops:Array Oper}
theorem Zrb (hS:Hold B X w0 n S a w ι){Y:Nat->Prop}(hY:∀b,Y b->ownX ι X b):∀(k:Nat) (p:PV) (v:Value) (d:D),toD S.objs k p=some d->(∀o∈p.refs S.objs k,S.objs o≠ .gone->∀b,ι o=some b->¬Y b)->PV.At w ι X p v->D.At w Y d v:=by
 intro k
 induction k with
 |zero=>intro p v d h;simp[toD]at h
 |succ k ih=>
  intro p v d h href hp;have list:∀(cs:List PV) (ds:List D),cs.mapM (toD S.objs k)=some ds->ds.length=cs.length/\∀(j:Nat) d,ds[j]? =some d->∃p,cs[j]? =some p/\toD S.objs k p=some d:=by
   intro cs
   induction cs with
   |nil=>intro ds hm;simp at hm;subst hm;simp
   |cons c cs ihc=>
    intro ds hm;simp only[jT]at hm;cases hc:toD S.objs k c with
    |none=>rw[hc]at hm;cases hm
    |some e=>
     rw[hc]at hm;cases hm2:cs.mapM (toD S.objs k)with
     |none=>rw[hm2]at hm;cases hm
     |some es=>
      rw[hm2]at hm;cases hm;obtain⟨g1,g2⟩:=ihc es hm2;refine⟨by simp[g1],λ j d hj=>?_⟩;cases j with
      |zero=>simp at hj;subst hj;exact⟨c,rfl,hc⟩
      |succ j=>obtain⟨p,hp,hq⟩:=g2 j d (by simpa using hj);exact⟨p,by simpa using hp,hq⟩
  cases p with
  |d x=>simp[toD]at h;subst h;cases hp with|d _ _ hp=>exact hp.sub hY
  |nilS=>simp[toD]at h;subst h;cases hp;exact .slnil none 0
  |z0=>simp[toD]at h;subst h;cases hp;exact .slnil _ 0
  |unk=>simp[toD]at h
  |und=>simp[toD]at h
  |ab=>simp[toD]at h
  |mp _=>simp[toD]at h
  |ifp _ _=>simp[toD]at h
  |ref o sz off len cap=>
   simp only[toD]at h;have hoo:=hS.objs o;have hnY:S.objs o≠ .gone->∀b,ι o=some b->¬Y b:=href o (by simp only[PV.refs];split<;>simp);cases hob:S.objs o with
   |dead=>rw[hob]at h;cases h
   |gone=>rw[hob]at h;cases h
   |imap _=>rw[hob]at h;cases h
   |iter _ _ _=>rw[hob]at h;cases h
   |cells cs=>
    rw[hob]at h hoo hnY
    replace hnY:=hnY (by simp)
    simp only[PV.refs,hob]at href;simp only at h;split at h
    ·rename_i hcond;obtain⟨rfl,hle⟩:=hcond;cases hmm:((cs.drop off).take len).mapM (toD S.objs k)with
     |none=>rw[hmm]at h;cases h
     |some ds=>
      rw[hmm]at h;cases h;obtain⟨g1,g2⟩:=list _ ds hmm;have hlen:ds.length=len:=by rw[g1];simp;omega
      cases hp with
      |ref0=>rw[qF hlen];exact .slnil _ _
      |ref _ _ _ _ _ capr b hι hl hc hm hs=>
       cases hoo with
       |cells _ b' c T hι' hb hsz hone hat=>
        rw[hι]at hι';cases hι';have key:∀(i:Nat) e,ds[i]? =some e->∃v,c[off+i]? =some v/\c.getD (off+i) undef=v/\D.At w Y e v/\e.cells=[e]:=by
         intro i e hi;obtain⟨p,hp,hq⟩:=g2 i e hi;have hil:i<len:=by rw[<-hlen];exact(uB.1 hi).1
         rw[qC,if_pos hil,qZ]at hp;have hlt:off+i<c.size:=by omega
         have hpm:p∈(cs.drop off).take len:=uA (by rw[qC,if_pos hil,qZ];exact hp);have hat':=ih p _ e hq (λ o ho=>href o (uM _ (kJ.2 ⟨p,hpm,ho⟩))) (hat (off+i) p _ hp (uT hlt));exact⟨_,uT hlt,by simp[Array.getD,hlt],hat',hat'.single (hone _ _ (uT hlt))⟩
        have:=D.At.sl (w:=w) (X:=Y) ds b (off*1) capr 1 (by omega) hm (λ d hd=>by
          obtain⟨i,hi⟩:=yW hd;obtain⟨v,h1,h2,h3,h4⟩:=key i d hi;rw[h4];rfl) (λ i j=>c.getD (off+i+j) undef)
         (λ i d j e hi hj=>by
          obtain⟨v,h1,h2,h3,h4⟩:=key i d hi;rw[h4]at hj;have hj0:j=0:=by have:=(uB.1 hj).1;simp at this;exact this
          subst hj0;simp only[gH,jQ,h2];exact⟨by rw[ZcB hb];exact h1,hone _ v h1,λ h=>hnY b hι h⟩)
         (λ i d j e hi hj=>by
          obtain⟨v,h1,h2,h3,h4⟩:=key i d hi;rw[h4]at hj;have hj0:j=0:=by have:=(uB.1 hj).1;simp at this;exact this
          subst hj0;cases hj;simp only[gH,h2];exact h3)
        rw[hlen]at this;exact this
    ·cases h
   |row sz' l=>
    rw[hob]at h hoo hnY
    replace hnY:=hnY (by simp)
    simp only[PV.refs,hob]at href;simp only at h;split at h
    ·rename_i hcond;obtain⟨rfl,hle⟩:=hcond;cases h;have hlen:((l.drop off).take len).length=len:=by simp;omega
     cases hp with
     |ref0=>simp only[yY];exact .slnil _ _
     |ref _ _ _ _ _ capr b hι hl hc hm hs=>
      cases hoo with
      |row0 _ h=>rw[h]at hι;cases hι
      |row _ _ b' c T hι' hb hsz hcl hone h=>
       rw[hι]at hι';cases hι';have key:∀(i:Nat) d (j:Nat) e,((l.drop off).take len)[i]? =some d->d.cells[j]? =some e->∃v,c[off*sz+i*sz+j]? =some v/\c.getD (off*sz+i*sz+j) undef=v/\D.At w (ownX ι X) e v:=by
        intro i d j e hi hj;rw[qC]at hi;split at hi
        ·rename_i hil;rw[qZ]at hi;have hjs:j<sz:=by rw[<-hcl d (uA hi)];exact(uB.1 hj).1
         have hlt:(off+i)*sz+j<c.size:=by
          have:(off+i+1)*sz<=l.length*sz:=yF _ (by omega);rw[qE]at this;omega
         have heq:off*sz+i*sz+j=(off+i)*sz+j:=by rw[qE]
         rw[heq];have hg:c[(off+i)*sz+j]? =some c[(off+i)*sz+j]:=uT hlt;exact⟨_,hg,by simp[Array.getD,hlt],h (off+i) d j e _ hi hj hg⟩
        ·cases hi
       have:=D.At.sl (w:=w) (X:=Y) ((l.drop off).take len) b (off*sz) capr sz (by rw[hlen];exact hl) hm (λ d hd=>hcl d (gS (qR hd)))
        (λ i j=>c.getD (off*sz+i*sz+j) undef) (λ i d j e hi hj=>by
         obtain⟨v,h1,h2,h3⟩:=key i d j e hi hj;simp only[h2];exact⟨by rw[ZcB hb];exact h1,hone _ v h1,λ h=>hnY b hι h⟩) (λ i d j e hi hj=>by
         obtain⟨v,h1,h2,h3⟩:=key i d j e hi hj;simp only[h2];exact h3.sub hY)
       rw[hlen]at this;exact this
    ·cases h
  |ptr o sz i c=>
   simp only[toD]at h;have hoo:=hS.objs o;have hnY:S.objs o≠ .gone->∀b,ι o=some b->¬Y b:=href o (by simp only[PV.refs];split<;>simp);cases hob:S.objs o with
   |dead=>rw[hob]at h;cases h
   |gone=>rw[hob]at h;cases h
   |row _ _=>rw[hob]at h;cases h
   |imap _=>rw[hob]at h;cases h
   |iter _ _ _=>rw[hob]at h;cases h
   |cells cs=>
    rw[hob]at h hoo hnY
    replace hnY:=hnY (by simp)
    simp only[PV.refs,hob]at href;simp only at h;split at h
    ·rename_i hcond;obtain⟨rfl,rfl⟩:=hcond;cases hm:cs.mapM (toD S.objs k)with
     |none=>rw[hm]at h;cases h
     |some ds=>
      rw[hm]at h;cases h;obtain⟨g1,g2⟩:=list cs ds hm;cases hp with
      |ptr _ _ _ _ b hι=>
       cases hoo with
       |cells _ b' c T hι' hb hsz hone h=>
        rw[hι]at hι';cases hι';have key:∀(j:Nat) e,ds[j]? =some e->∃v,c[j]? =some v/\c.getD j undef=v/\D.At w Y e v:=by
         intro j e hj;obtain⟨p,hp,hq⟩:=g2 j e hj;have hlt:j<c.size:=by have:=(uB.1 hj).1;omega
         exact⟨_,uT hlt,by simp[Array.getD,hlt],ih p _ e hq (λ o ho=>href o (uM _ (kJ.2 ⟨p,uA hp,ho⟩))) (h j p _ hp (uT hlt))⟩
        refine .pt ds b _ (λ j=>c.getD j undef) (λ j e hj=>?_) (λ j e hj=>?_)
        ·obtain⟨v,h1,h2,h3⟩:=key j e hj;simp only[h2];exact⟨by rw[ZcB hb];simpa using h1,hone _ v h1,λ h=>hnY b hι h⟩
        ·obtain⟨v,h1,h2,h3⟩:=key j e hj;simp only[h2];exact h3
    ·cases h
  |ag cs=>
   simp only[toD]at h;cases hm:cs.mapM (toD S.objs k)with
   |none=>rw[hm]at h;cases h
   |some ds=>
    rw[hm]at h;cases h;obtain⟨g1,g2⟩:=list cs ds hm;cases hp with
    |ag _ arr hsz hone hat=>exact .ag ds arr (by omega) hone λ j d v hj hv=>by
                                 obtain⟨p,hp,hq⟩:=g2 j d hj;exact ih p v d hq (λ o ho=>href o (by simp only[PV.refs];exact kJ.2 ⟨p,uA hp,ho⟩)) (hat j p v hp hv)
  |tup cs=>
   simp only[toD]at h;cases hm:cs.mapM (toD S.objs k)with
   |none=>rw[hm]at h;cases h
   |some ds=>
    rw[hm]at h;cases h;obtain⟨g1,g2⟩:=list cs ds hm;cases hp with
    |tup _ arr hsz hat=>exact .tup ds arr (by omega) λ j d v hj hv=>by
                             obtain⟨p,hp,hq⟩:=g2 j d hj;exact ih p v d hq (λ o ho=>href o (by simp only[PV.refs];exact kJ.2 ⟨p,uA hp,ho⟩)) (hat j p v hp hv)
  |fn f cs=>
   simp only[toD]at h;cases hm:cs.mapM (toD S.objs k)with
   |none=>rw[hm]at h;cases h
   |some ds=>
    rw[hm]at h;cases h;obtain⟨g1,g2⟩:=list cs ds hm;cases hp with
    |fn _ _ arr hsz hat=>exact .fn f ds arr (by omega) λ j d v hj hv=>by
                              obtain⟨p,hp,hq⟩:=g2 j d hj;exact ih p v d hq (λ o ho=>href o (by simp only[PV.refs];exact kJ.2 ⟨p,uA hp,ho⟩)) (hat j p v hp hv)
theorem ZmI (hS:Hold B X w0 n S a w ι){Y:Nat->Prop}(hY:∀b,Y b->X b)(k:Nat)(p:PV)(v:Value)(d:D)(h:toD S.objs k p=some d)(hp:PV.At w ι X p v):D.At w Y d v:=
 Zrb hS (λ b h=> .inl (hY b h)) k p v d h (λ o _ _ b hb hYb=>(hS.free o b hb).1 (hS.hXB.1 b (hY b hYb))) hp
theorem Zlg {Y Z:Nat->Prop}:∀(k:Nat) (d:D) (v:Value),d.flat k=true->D.At w Y d v->D.At w Z d v:=by
 intro k
 induction k with
 |zero=>intro d v h;simp[D.flat]at h
 |succ k ih=>
  intro d v h hd;cases hd with
  |sc v h1=>exact .sc v h1
  |ag cs arr hsz hone hat=>
   simp only[D.flat,uW]at h;exact .ag cs arr hsz hone λ j d v hj hv=>ih d v (h d (uA hj)) (hat j d v hj hv)
  |slnil base cap=>exact .slnil base cap
  |sl l b off cap sz hl hc hsz vals hv hat=>
   simp only[D.flat,Aj]at h;subst h;exact .slnil _ _
  |tup cs arr hsz hat=>
   simp only[D.flat,uW]at h;exact .tup cs arr hsz λ j d v hj hv=>ih d v (h d (uA hj)) (hat j d v hj hv)
  |pt=>simp[D.flat]at h
  |fn=>simp[D.flat]at h
theorem ZkT {g:FuncId}(hc:ZhR P g)(args:Array Value):(callFunc g args).run P w= .ok (.enter g args) w:=by
 obtain⟨fn,h1,h2,h3⟩:=hc;simp only[callFunc,Sem.run_bind,run_program,Result.andThen_ok,h1,h3,qB,jE,h2,Sem.run_pure]
theorem ZsM (htb:w0.tabs=tabs P)(hS:Hold B X w0 n S a w ι){dst:Option Nat}{f:Operand}{as:Array Operand}{tys:Array TypeId}{ty:TypeId}{pos:String}{af:Array Edge}{gd:Option (Nat×Bool)}
  (hd:∀t,dst=some t->t<n)(hf:Zax f=true)(hx:∀x∈as.toList,Zax x=true){r:D}(hc:ZhQ P S.objs (S.ev f) (as.toList.map S.ev) r)
  {next:Act->World->Prop}{Q:Exit->Act->World->Prop}(hk:∀a' w' ι',Hold B X w0 n (S.put dst (.d r)) a' w' ι'->next a' w'):
  (Oper.mk dst (.call ⟨.value f,as,tys⟩) ty pos af gd).wp P a w next Q:=by
 obtain⟨g,caps,args,hfv,hargs,hcall,hflat⟩:=hc;have hpf:=hS.ev hf;rw[hfv]at hpf;obtain⟨hcb,hcalls⟩:=hcall;have hfn:∃carr:Array Value,a.eval f= .func (.func g) #[] carr/\carr.size=caps.length/\∀(j:Nat) d v,caps[j]? =some d->carr[j]? =some v->D.At w (ownX ι X) d v:=by
  generalize a.eval f=fv at hpf;cases hpf with
  |d _ _ h=>cases h with|fn _ _ arr hsz h=>exact⟨arr,rfl,hsz,h⟩
 obtain⟨carr,hfe,hcs,hcat⟩:=hfn;have hlen:args.length=as.toList.length/\∀(j:Nat) d,args[j]? =some d->∃x,as.toList[j]? =some x/\toD S.objs 4 (S.ev x)=some d:=by
  have:∀(xs:List Operand) (ds:List D),(xs.map S.ev).mapM (toD S.objs 4)=some ds->ds.length=xs.length/\∀(j:Nat) d,ds[j]? =some d->∃x,xs[j]? =some x/\toD S.objs 4 (S.ev x)=some d:=by
   intro xs
   induction xs with
   |nil=>intro ds h;simp at h;subst h;simp
   |cons x xs ih=>
    intro ds h;simp only[uX,jT]at h;cases h1:toD S.objs 4 (S.ev x)with
    |none=>rw[h1]at h;cases h
    |some d=>
     rw[h1]at h;cases h2:(xs.map S.ev).mapM (toD S.objs 4)with
     |none=>rw[h2]at h;cases h
     |some es=>
      rw[h2]at h;cases h;obtain⟨g1,g2⟩:=ih es h2;refine⟨by simp[g1],λ j e hj=>?_⟩;cases j with
      |zero=>simp at hj;subst hj;exact⟨x,rfl,h1⟩
      |succ j=>obtain⟨y,hy,hq⟩:=g2 j e (by simpa using hj);exact⟨y,by simpa using hy,hq⟩
  exact this as.toList args hargs
 have hvals:∀(Y:Nat->Prop),(∀(j:Nat) d x,args[j]? =some d->as.toList[j]? =some x->toD S.objs 4 (S.ev x)=some d->D.At w Y d (a.eval x))->(∀b,Y b->ownX ι X b)->Zgq w Y (args++caps) (as.map a.eval++carr):=by
  intro Y h1 hY;refine⟨by simp[hlen.1,hcs],λ j d v hj hv=>?_⟩;rw[gT]at hj;rw[gJ]at hv;simp only[Array.size_map]at hv;have hl1:args.length=as.size:=by simpa using hlen.1
  rw[hl1]at hj;split at hj
  ·rename_i hlt;rw[if_pos hlt]at hv;obtain⟨x,hx1,hx2⟩:=hlen.2 j d hj;rw[zE]at hv;have hax:as[j]? =some x:=by simpa using hx1
   rw[hax]at hv;cases hv;exact h1 j d x hj hx1 hx2
  ·rename_i hlt;rw[if_neg hlt]at hv;exact(hcat _ d v hj hv).sub hY
 have hexec:(execOp a.eval (Oper.mk dst (.call ⟨.value f,as,tys⟩) ty pos af gd)).run P w= .ok (.enter g (as.map a.eval++carr)) w:=by
  simp only[execOp,resolve,hfe,Deferred.ofValue,Sem.run_bind,Sem.run_pure,Result.andThen_ok,invoke,Array.empty_append,ZkT hcb]
 unfold Oper.wp;rw[hexec,Oper.upon_enter];have fin:∀v w',D.At w' (ownX ι X) r v->RowKit.Below w.heap.size w w'->next (a.put dst v) w':=λ v w' hr hb=>hk _ _ _ ((hS.ext hb).put hd (.d _ _ hr))
 rcases hflat with hnil|hfl
 ·refine Calls.mono (hcalls w (ownX ι X) _ (λ b hb=>hS.ownlt hb) (hvals _ (λ j d x hj hxj hxd=>?_) (λ _ h=>h)) ?_) ?_
  ·refine ZmH 4 (S.ev x) _ d hxd ?_ (hS.ev (hx x (uA hxj)));rw[Au]at hnil;exact hnil _ (jP (uA hxj))
  ·exact htb▸hS.tabs
  ·rintro e w' ⟨v,rfl,hr,hb⟩;exact fin v w' hr hb
 ·refine Calls.mono (hcalls w (λ _=>False) _ (λ b hb=>hb.elim) (hvals _ (λ j d x hj hxj hxd=>?_) (λ _ h=>h.elim)) ?_) ?_
  ·exact ZmI hS (λ _ h=>h.elim) 4 (S.ev x) _ d hxd (hS.ev (hx x (uA hxj)))
  ·exact(htb▸hS.tabs:ZdX (tabs P) w (ownX ι X)).sub λ _ h=>h.elim
  ·rintro e w' ⟨v,rfl,hr,hb⟩;exact fin v w' (Zlg 4 r v hfl hr) hb
theorem Zmd {ι ιc:Nat->Option Nat}{X Xc:Nat->Prop}{g:Nat->Nat}{L:List Nat}(hι:∀i∈L,ιc i=ι (g i))(hX:∀b,ownX ιc Xc b->ownX ι X b):
  ∀(k:Nat) (p:PV) (v:Value),p.only L k=true->PV.At w ι X (p.ren g) v->PV.At w ιc Xc p v:=by
 intro k
 induction k with
 |zero=>intro p v h;simp[PV.only]at h
 |succ k ih=>
  intro p v h hp;have list:∀(cs:List PV) (arr:Array Value),cs.all (PV.only L k)=true->(∀(j:Nat) p v,(cs.map (PV.ren g))[j]? =some p->arr[j]? =some v->PV.At w ι X p v)->
    ∀(j:Nat) p v,cs[j]? =some p->arr[j]? =some v->PV.At w ιc Xc p v:=by
   intro cs arr hc hat j p v hj hv;simp only[uW]at hc;exact ih p v (hc p (uA hj)) (hat j _ v (by rw[uI,hj];rfl) hv)
  cases p with
  |d x=>simp only[PV.ren,PV.renL_eq]at hp;cases hp with|d _ _ h=>exact .d _ _ (h.sub hX)
  |ref o sz off len cap=>
   simp only[PV.ren,PV.renL_eq]at hp;simp only[PV.only,yJ,uG]at h;cases hp with
   |ref _ _ _ _ _ capr b hb hl hc hm hs=>exact .ref o sz off len cap capr b ((hι o h).trans hb) hl hc hm hs
   |ref0 _ _ _ base=>exact .ref0 _ _ _ base
  |ptr o sz i c=>
   simp only[PV.ren,PV.renL_eq]at hp;simp only[PV.only,yJ,uG]at h;cases hp with|ptr _ _ _ _ b hb=>exact .ptr o sz i c b ((hι o h).trans hb)
  |nilS=>simp only[PV.ren,PV.renL_eq]at hp;cases hp;exact .nilS
  |z0=>simp only[PV.ren,PV.renL_eq]at hp;cases hp;exact .z0 _
  |unk=>exact .unk _
  |und=>simp only[PV.ren,PV.renL_eq]at hp;cases hp;exact .und
  |ab=>simp only[PV.ren,PV.renL_eq]at hp;cases hp;exact .ab _
  |mp o=>
   simp only[PV.ren,PV.renL_eq]at hp;simp only[PV.only,yJ,uG]at h;cases hp with|mp _ b hb=>exact .mp o b ((hι o h).trans hb)
  |ifp T o=>
   simp only[PV.ren,PV.renL_eq]at hp;simp only[PV.only,yJ,uG]at h;cases hp with|ifp _ _ b hb=>exact .ifp T o b ((hι o h).trans hb)
  |ag cs=>
   simp only[PV.ren,PV.renL_eq]at hp;cases hp with|ag _ arr hsz hone hat=>exact .ag cs arr (by simpa using hsz) hone (list cs arr h hat)
  |tup cs=>
   simp only[PV.ren,PV.renL_eq]at hp;cases hp with|tup _ arr hsz hat=>exact .tup cs arr (by simpa using hsz) (list cs arr h hat)
  |fn f cs=>
   simp only[PV.ren,PV.renL_eq]at hp;cases hp with|fn _ _ arr hsz hat=>exact .fn f cs arr (by simpa using hsz) (list cs arr h hat)
theorem Zqj {ι ιc:Nat->Option Nat}{X Xc:Nat->Prop}{g:Nat->Nat}{L:List Nat}(hι:∀i∈L,ι (g i)=ιc i)(hX:∀b,ownX ι X b->ownX ιc Xc b):
  ∀(k:Nat) (p:PV) (v:Value),p.only L k=true->PV.At w ιc Xc p v->PV.At w ι X (p.ren g) v:=by
 intro k
 induction k with
 |zero=>intro p v h;simp[PV.only]at h
 |succ k ih=>
  intro p v h hp;have list:∀(cs:List PV) (arr:Array Value),cs.all (PV.only L k)=true->(∀(j:Nat) p v,cs[j]? =some p->arr[j]? =some v->PV.At w ιc Xc p v)->
    ∀(j:Nat) p v,(cs.map (PV.ren g))[j]? =some p->arr[j]? =some v->PV.At w ι X p v:=by
   intro cs arr hc hat j p v hj hv;simp only[uW]at hc;rw[uI]at hj;cases hq:cs[j]? with
   |none=>rw[hq]at hj;cases hj
   |some q=>rw[hq]at hj;cases hj;exact ih q v (hc q (uA hq)) (hat j q v hq hv)
  cases hp with
  |d x v h=>simp only[PV.ren,PV.renL_eq];exact .d _ _ (h.sub hX)
  |ref o sz off len cap capr b hb hl hc hm hs=>
   simp only[PV.only,yJ,uG]at h;simp only[PV.ren,PV.renL_eq];exact .ref _ sz off len cap capr b ((hι o h).trans hb) hl hc hm hs
  |ref0 o sz off base=>simp only[PV.ren,PV.renL_eq];exact .ref0 _ _ _ base
  |ptr o sz i c b hb=>
   simp only[PV.only,yJ,uG]at h;simp only[PV.ren,PV.renL_eq];exact .ptr _ sz i c b ((hι o h).trans hb)
  |nilS=>simp only[PV.ren,PV.renL_eq];exact .nilS
  |z0 base=>simp only[PV.ren,PV.renL_eq];exact .z0 _
  |unk v=>simp only[PV.ren,PV.renL_eq];exact .unk _
  |und=>simp only[PV.ren,PV.renL_eq];exact .und
  |ab b=>simp only[PV.ren,PV.renL_eq];exact .ab b
  |mp o b hb=>
   simp only[PV.only,yJ,uG]at h;simp only[PV.ren,PV.renL_eq];exact .mp _ b ((hι o h).trans hb)
  |ifp T o b hb=>
   simp only[PV.only,yJ,uG]at h;simp only[PV.ren,PV.renL_eq];exact .ifp T _ b ((hι o h).trans hb)
  |ag cs arr hsz hone hat=>simp only[PV.ren,PV.renL_eq];exact .ag _ arr (by simpa using hsz) hone (list cs arr h hat)
  |tup cs arr hsz hat=>simp only[PV.ren,PV.renL_eq];exact .tup _ arr (by simpa using hsz) (list cs arr h hat)
  |fn f cs arr hsz hat=>simp only[PV.ren,PV.renL_eq];exact .fn f _ arr (by simpa using hsz) (list cs arr h hat)
theorem Zqh {ι ιc:Nat->Option Nat}{X Xc:Nat->Prop}{g:Nat->Nat}{L:List Nat}(hι:∀i∈L,ιc i=ι (g i))(hX:∀b,ownX ιc Xc b->ownX ι X b){i:Nat}{ob:Ob}
  (hi:i∈L)(hon:ob.only L=true)(ho:Ob.At w ι X (g i) (ob.ren g)):Ob.At w ιc Xc i ob:=by
 cases ob with
 |gone=>exact .gone
 |dead=>simp only[Ob.ren]at ho;cases ho with|dead h=>exact .dead ((hι i hi).trans h)
 |cells cs=>
  simp only[Ob.ren]at ho;simp only[Ob.only,uW]at hon;cases ho with
  |cells _ b c T hb hbb hsz hone hat=>
   exact .cells cs b c T ((hι i hi).trans hb) hbb (by simpa using hsz) hone λ j p v hj hv=>Zmd hι hX 4 p v (hon p (uA hj)) (hat j _ v (by rw[uI,hj];rfl) hv)
 |row sz l=>
  simp only[Ob.ren]at ho;cases ho with
  |row0 _ h=>exact .row0 sz ((hι i hi).trans h)
  |row _ _ b c T hb hbb hsz hcl hone hat=>exact .row sz l b c T ((hι i hi).trans hb) hbb hsz hcl hone λ i d j e v hi hj hv=>(hat i d j e v hi hj hv).sub hX
 |imap l=>
  simp only[Ob.ren]at ho;cases ho with
  |imap _ b es clock hb hbb he=>exact .imap l b es clock ((hι i hi).trans hb) hbb he
 |iter m k sn=>
  simp only[Ob.ren]at ho;simp only[Ob.only,yJ,uG]at hon;cases ho with
  |iter _ _ _ b bm hb hm hbb=>exact .iter m k sn b bm ((hι i hi).trans hb) ((hι m hon).trans hm) hbb
theorem Zw5 {ι ιc:Nat->Option Nat}{X Xc:Nat->Prop}{g:Nat->Nat}{L:List Nat}(hι:∀i∈L,ι (g i)=ιc i)(hX:∀b,ownX ι X b->ownX ιc Xc b){i:Nat}{ob:Ob}
  (hi:i∈L)(hon:ob.only L=true)(ho:Ob.At w ιc Xc i ob):Ob.At w ι X (g i) (ob.ren g):=by
 cases ho with
 |gone=>simp only[Ob.ren];exact .gone
 |dead h=>simp only[Ob.ren];exact .dead ((hι i hi).trans h)
 |cells cs b c T hb hbb hsz hone hat=>
  simp only[Ob.only,uW]at hon;simp only[Ob.ren];refine .cells _ b c T ((hι i hi).trans hb) hbb (by simpa using hsz) hone λ j p v hj hv=>?_
  rw[uI]at hj;cases hq:cs[j]? with
  |none=>rw[hq]at hj;cases hj
  |some q=>rw[hq]at hj;cases hj;exact Zqj hι hX 4 q v (hon q (uA hq)) (hat j q v hq hv)
 |row0 sz h=>simp only[Ob.ren];exact .row0 sz ((hι i hi).trans h)
 |row sz l b c T hb hbb hsz hcl hone hat=>simp only[Ob.ren];exact .row sz l b c T ((hι i hi).trans hb) hbb hsz hcl hone λ i d j e v hi hj hv=>(hat i d j e v hi hj hv).sub hX
 |imap l b es clock hb hbb he=>simp only[Ob.ren];exact .imap l b es clock ((hι i hi).trans hb) hbb he
 |iter m k sn b bm hb hm hbb=>
  simp only[Ob.only,yJ,uG]at hon;simp only[Ob.ren];exact .iter _ k sn b bm ((hι i hi).trans hb) ((hι m hon).trans hm) hbb
theorem ZgR :∀(M:List (Nat×Ob)),(M.map (·.1)).Nodup->∀q∈M,Zam M q.1=q.2:=by
 intro M
 induction M with
 |nil=>intro _ q h;cases h
 |cons p M ih=>
  intro hn q hq;simp only[uX,yS]at hn;rcases yH.1 hq with rfl|hq
  ·exact if_pos rfl
  ·have hne:q.1≠p.1:=λ he=>hn.1 (by rw[<-he];exact jP hq)
   show upd p.1 p.2 (Zam M) q.1=_;rw[upd,if_neg hne];exact ih hn.2 q hq
theorem Zhv :∀(M:List (Nat×Ob)) (o:Nat),o∉M.map (·.1)->Zam M o= .dead:=by
 intro M
 induction M with
 |nil=>intro o _;rfl
 |cons p M ih=>
  intro o hn;simp only[uX,yH,not_or]at hn;show upd p.1 p.2 (Zam M) o=_;rw[upd,if_neg hn.1];exact ih o hn.2
theorem ZzZ :∀(M:List (Nat×Ob)) (objs:Nat->Ob),(M.map (·.1)).Nodup->∀q∈M,wrs M objs q.1=q.2:=by
 intro M
 induction M with
 |nil=>intro _ _ q h;cases h
 |cons p M ih=>
  intro objs hn q hq;simp only[uX,yS]at hn;rcases yH.1 hq with rfl|hq
  ·exact if_pos rfl
  ·have hne:q.1≠p.1:=λ he=>hn.1 (by rw[<-he];exact jP hq)
   show upd p.1 p.2 (wrs M objs) q.1=_;rw[upd,if_neg hne];exact ih objs hn.2 q hq
theorem ZiX :∀(M:List (Nat×Ob)) (objs:Nat->Ob) (o:Nat),o∉M.map (·.1)->wrs M objs o=objs o:=by
 intro M
 induction M with
 |nil=>intro objs o _;rfl
 |cons p M ih=>
  intro objs o hn;simp only[uX,yH,not_or]at hn;show upd p.1 p.2 (wrs M objs) o=_;rw[upd,if_neg hn.1];exact ih objs o hn.2
theorem Zsa {objs:Nat->Ob}{g:Nat->Nat}{fl:Prop}:∀(xs ps:List PV),Zek objs g fl xs ps->xs.length=ps.length/\∀(j:Nat) p,ps[j]? =some p->∃x,xs[j]? =some x/\(x=p.ren g\/∃d,p= .d d/\toD objs 4 x=some d/\(x.refs objs 4=[]\/fl)):=by
 intro xs
 induction xs with
 |nil=>
  intro ps h;cases ps with
  |nil=>exact⟨rfl,by simp⟩
  |cons=>exact h.elim
 |cons x xs ih=>
  intro ps h;cases ps with
  |nil=>exact h.elim
  |cons p ps=>
   obtain⟨h1,h2⟩:=h;obtain⟨g1,g2⟩:=ih ps h2;refine⟨by simp[g1],λ j q hj=>?_⟩;cases j with
   |zero=>simp at hj;subst hj;exact⟨x,rfl,h1⟩
   |succ j=>obtain⟨y,hy,hq⟩:=g2 j q (by simpa using hj);exact⟨y,by simpa using hy,hq⟩
theorem Zqk {ι ιc:Nat->Option Nat}{X Xc:Nat->Prop}{g:Nat->Nat}{L:List Nat}(hι:∀i∈L,ι (g i)=ιc i):
  ∀(k:Nat) (p:PV) (v:Value),p.only L k=true->p.flatP k=true->PV.At w ιc Xc p v->PV.At w ι X (p.ren g) v:=by
 intro k
 induction k with
 |zero=>intro p v h;simp[PV.only]at h
 |succ k ih=>
  intro p v h hf hp;have list:∀(cs:List PV) (arr:Array Value),cs.all (PV.only L k)=true->cs.all (PV.flatP k)=true->(∀(j:Nat) p v,cs[j]? =some p->arr[j]? =some v->PV.At w ιc Xc p v)->
    ∀(j:Nat) p v,(cs.map (PV.ren g))[j]? =some p->arr[j]? =some v->PV.At w ι X p v:=by
   intro cs arr hc hcf hat j p v hj hv;simp only[uW]at hc hcf;rw[uI]at hj;cases hq:cs[j]? with
   |none=>rw[hq]at hj;cases hj
   |some q=>rw[hq]at hj;cases hj;exact ih q v (hc q (uA hq)) (hcf q (uA hq)) (hat j q v hq hv)
  cases hp with
  |d x v h=>simp only[PV.ren];exact .d _ _ (Zlg 4 x v (by simpa[PV.flatP]using hf) h)
  |ref o sz off len cap capr b hb hl hc hm hs=>
   simp only[PV.only,yJ,uG]at h;simp only[PV.ren];exact .ref _ sz off len cap capr b ((hι o h).trans hb) hl hc hm hs
  |ref0 o sz off base=>simp only[PV.ren];exact .ref0 _ _ _ base
  |ptr o sz i c b hb=>
   simp only[PV.only,yJ,uG]at h;simp only[PV.ren];exact .ptr _ sz i c b ((hι o h).trans hb)
  |nilS=>simp only[PV.ren];exact .nilS
  |z0 base=>simp only[PV.ren];exact .z0 _
  |unk v=>simp only[PV.ren];exact .unk _
  |und=>simp only[PV.ren];exact .und
  |ab b=>simp only[PV.ren];exact .ab b
  |mp o b hb=>
   simp only[PV.only,yJ,uG]at h;simp only[PV.ren];exact .mp _ b ((hι o h).trans hb)
  |ifp T o b hb=>
   simp only[PV.only,yJ,uG]at h;simp only[PV.ren];exact .ifp T _ b ((hι o h).trans hb)
  |ag cs arr hsz hone hat=>simp only[PV.ren,PV.renL_eq];exact .ag _ arr (by simpa using hsz) hone (list cs arr h hf hat)
  |tup cs arr hsz hat=>simp only[PV.ren,PV.renL_eq];exact .tup _ arr (by simpa using hsz) (list cs arr h hf hat)
  |fn f cs arr hsz hat=>simp only[PV.ren,PV.renL_eq];exact .fn f _ arr (by simpa using hsz) (list cs arr h hf hat)
theorem Zw6 {ι ιc:Nat->Option Nat}{X Xc:Nat->Prop}{g:Nat->Nat}{L:List Nat}(hι:∀i∈L,ι (g i)=ιc i){i:Nat}{ob:Ob}
  (hi:i∈L)(hon:ob.only L=true)(hf:ob.flatP)(ho:Ob.At w ιc Xc i ob):Ob.At w ι X (g i) (ob.ren g):=by
 cases ho with
 |gone=>simp only[Ob.ren];exact .gone
 |dead h=>simp only[Ob.ren];exact .dead ((hι i hi).trans h)
 |cells cs b c T hb hbb hsz hone hat=>
  simp only[Ob.only,uW]at hon;simp only[Ob.flatP,uW]at hf;simp only[Ob.ren];refine .cells _ b c T ((hι i hi).trans hb) hbb (by simpa using hsz) hone λ j p v hj hv=>?_
  rw[uI]at hj;cases hq:cs[j]? with
  |none=>rw[hq]at hj;cases hj
  |some q=>rw[hq]at hj;cases hj;exact Zqk hι 4 q v (hon q (uA hq)) (hf q (uA hq)) (hat j q v hq hv)
 |row0 sz h=>simp only[Ob.ren];exact .row0 sz ((hι i hi).trans h)
 |row sz l b c T hb hbb hsz hcl hone hat=>
  simp only[Ob.flatP]at hf;simp only[Ob.ren];exact .row sz l b c T ((hι i hi).trans hb) hbb hsz hcl hone λ i d j e v hi hj hv=>Zlg 4 e v (hf d (uA hi) e (uA hj)) (hat i d j e v hi hj hv)
 |imap l b es clock hb hbb he=>simp only[Ob.ren];exact .imap l b es clock ((hι i hi).trans hb) hbb he
 |iter m k sn b bm hb hm hbb=>
  simp only[Ob.only,yJ,uG]at hon;simp only[Ob.ren];exact .iter _ k sn b bm ((hι i hi).trans hb) ((hι m hon).trans hm) hbb
theorem ZiN {g:Nat->Nat}{ob:Ob}:ob.ren g= .gone↔ob= .gone:=by cases ob<;>simp[Ob.ren]
theorem Zrm (hS:Hold B X w0 n S a w ι){as:Array Operand}(hx:∀x∈as.toList,Zax x=true){caps:List PV}{carr:Array Value}(hcs:carr.size=caps.length)
  (hcat:∀(j:Nat) p v,caps[j]? =some p->carr[j]? =some v->PV.At w ι X p v)(j:Nat)(x0:PV)(v:Value)(hj2:(as.toList.map S.ev++caps)[j]? =some x0)(hv:(as.map a.eval++carr)[j]? =some v):PV.At w ι X x0 v:=by
 rw[gT]at hj2;rw[gJ]at hv;simp only[Array.size_map,uE,Am]at hv hj2;split at hj2
 ·rename_i hlt;rw[if_pos hlt]at hv;rw[zE]at hv;rw[uI]at hj2;simp only[qM]at hj2;cases hq:as[j]? with
  |none=>rw[hq]at hv;cases hv
  |some x=>
   rw[hq]at hv hj2;simp only[yV,uZ]at hv hj2;rw[<-hj2,<-hv];exact hS.ev (hx x (by simpa using gQ hq))
 ·rename_i hlt;rw[if_neg hlt]at hv;exact hcat _ _ v hj2 hv
theorem ZnN (htb:w0.tabs=tabs P)(hS:Hold B X w0 n S a w ι){o:Oper}(hd:∀t,o.dst=some t->t<n){h:FuncId}{caps xs args:List PV}{M M':List (Nat×Ob)}{r:PV}{g:Nat->Nat}{fl:Prop}{vs:Array Value}
  (hargs:Zek S.objs g fl (xs++caps) args)(hcm:Zaf P h args M r M')(hids:M'.map (·.1)=M.map (·.1))(hao:(args.all (PV.only (M.map (·.1)) 4))=true)
  (hMo:(M.all λ q=>q.2.only (M.map (·.1)))=true)(hro:r.only (M.map (·.1)) 4=true)(hMo':(M'.all λ q=>q.2.only (M.map (·.1)))=true)(hnd:(M.map λ q=>g q.1).Nodup)
  (hobs:∀q∈M,S.objs (g q.1)=q.2.ren g)(h2000:∀q∈M,2000<=q.1->q.2= .dead)(hng:∀q∈M,q.2≠ .gone)
  (hflat:fl->ZiZ r M M'/\∀x∈xs++caps,∀o∈x.refs S.objs 4,o∉M.map λ q=>g q.1)
  (hexec:ZhR P h->(execOp a.eval o).run P w= .ok (.enter h vs) w)(hvsz:vs.size=(xs++caps).length)(hvs:∀(j:Nat) p v,(xs++caps)[j]? =some p->vs[j]? =some v->PV.At w ι X p v)
  {next:Act->World->Prop}{Q:Exit->Act->World->Prop}(rd:List Nat)(hk:∀a' w' ι',Hold B X w0 n (S.app o.dst {val:=r.ren g,wr:=Zb8 g M',rd:=rd}) a' w' ι'->next a' w'):
  o.wp P a w next Q:=by
 obtain⟨hcb,hcalls⟩:=hcm;obtain⟨dst,op,ty,pos,af,gd⟩:=o;simp only at hd hk
 let L:=M.map (·.1)
 have hinjg:∀i∈L,∀j∈L,g i=g j->i=j:=by
  have:∀(M:List (Nat×Ob)),(M.map λ q=>g q.1).Nodup->∀i∈M.map (·.1),∀j∈M.map (·.1),g i=g j->i=j:=by
   intro M
   induction M with
   |nil=>intro _ i hi;cases hi
   |cons p M ih=>
    intro hn i hi j hj he;simp only[uX,yS]at hn;simp only[uX,yH]at hi hj;have key:∀j∈M.map (·.1),g p.1≠g j:=by
     intro j hj he;obtain⟨q,hq,rfl⟩:=uN.1 hj;exact hn.1 (uN.2 ⟨q,hq,he.symm⟩)
    rcases hi with rfl|hi<;>rcases hj with rfl|hj
    ·rfl
    ·exact absurd he (key j hj)
    ·exact absurd he.symm (key i hi)
    ·exact ih hn.2 i hi j hj he
  exact this M hnd
 have hndL:L.Nodup:=by
  have:∀(M:List (Nat×Ob)),(M.map λ q=>g q.1).Nodup->(M.map (·.1)).Nodup:=by
   intro M
   induction M with
   |nil=>intro _;exact Av
   |cons p M ih=>
    intro hn;simp only[uX,yS]at hn|-;refine⟨λ hm=>hn.1 ?_,ih hn.2⟩;obtain⟨q,hq,he⟩:=uN.1 hm;exact uN.2 ⟨q,hq,by rw[he]⟩
  exact this M hnd
 have hlive:∀i∈L,S.objs (g i)≠ .gone:=by
  intro i hi;obtain⟨q,hq,rfl⟩:=uN.1 hi;rw[hobs q hq];exact λ he=>hng q hq (ZiN.1 he)
 let ιc:Nat->Option Nat:=λ i=>if i∈L then ι (g i)else none
 let Xc:Nat->Prop:=λ b=>¬fl/\ownX ι X b/\∀i,ιc i≠some b
 have hιc:∀i∈L,ιc i=ι (g i):=λ i hi=>if_pos hi
 have hιcL:∀i b,ιc i=some b->i∈L/\ι (g i)=some b:=by
  intro i b hb;by_cases hi:i∈L
  ·exact⟨hi,by rw[<-hιc i hi];exact hb⟩
  ·simp only[ιc,if_neg hi]at hb;cases hb
 have hXin:∀b,ownX ιc Xc b->ownX ι X b:=by
  rintro b (hb|⟨i,hb⟩)
  ·exact hb.2.1
  ·exact .inr ⟨_,(hιcL i b hb).2⟩
 obtain⟨hlen,hget⟩:=Zsa _ _ hargs;unfold Oper.wp;rw[hexec hcb,Oper.upon_enter];refine Calls.mono (hcalls w ιc Xc _ (λ b hb=>⟨hS.ownlt hb.2.1,hb.2.2⟩) (λ o o' b _ _ h1 h2=>?_) (λ o b hb=>(hS.free _ b (hιcL o b hb).2).2) ?_ ?_ ?_ ?_ ?_) ?_
 ·obtain⟨g1,g2⟩:=hιcL o b h1;obtain⟨g3,g4⟩:=hιcL o' b h2;exact hinjg o g1 o' g3 (hS.inj _ _ b (hlive o g1) (hlive o' g3) g2 g4)
 ·omega
 ·intro j p v hj hv;simp only[uW]at hao;obtain⟨x0,hj2,hfit⟩:=hget j p hj;have hmem0:x0∈xs++caps:=uA hj2
  suffices hx0:PV.At w ι X x0 v by
   rcases hfit with rfl|⟨d,rfl,h1,h2⟩
   ·exact Zmd hιc hXin 4 p v (hao p (uA hj)) hx0
   ·by_cases hfl:fl
    ·refine .d _ _ (Zrb hS hXin 4 x0 v d h1 (λ o ho hlo b hb hY=>?_) hx0);rcases hY with hY|⟨i,hY⟩
     ·exact hY.1 hfl
     ·obtain⟨g1,g2⟩:=hιcL i b hY;have:=hS.inj _ _ b hlo (hlive i g1) hb g2;obtain⟨q,hq,rfl⟩:=uN.1 g1;exact(hflat hfl).2 x0 hmem0 o ho (uN.2 ⟨q,hq,this.symm⟩)
    ·rcases h2 with h2|h2
     ·exact .d _ _ ((ZmH 4 x0 v d h1 h2 hx0).sub hXin)
     ·exact absurd h2 hfl
  exact hvs j x0 v hj2 hv
 ·intro o;by_cases ho:o∈L
  ·obtain⟨q,hq,rfl⟩:=uN.1 ho;rw[ZgR M hndL q hq];simp only[uW]at hMo;refine Zqh hιc hXin ho (hMo q hq) ?_;rw[<-hobs q hq];exact hS.objs _
  ·rw[Zhv M o ho];exact .dead (if_neg ho)
 ·intro o b hb;exact(hιcL o b hb).1
 ·exact(htb▸hS.tabs:ZdX (tabs P) w (ownX ι X)).sub hXin
 rintro e w' ⟨v,ιc',rfl,hr,hobs',hids',hinj',hfree',hos,htape,hout,hsize,hkeep,hstay⟩;have hL':∀i b,ιc' i=some b->i∈L:=λ i b hb=>by show i∈M.map (·.1);rw[<-hids];exact hids' i b hb
 let inv:Nat->Option Nat:=λ o=>L.find? λ i=>g i==o
 have hinv:∀i∈L,inv (g i)=some i:=by
  intro i hi;simp only[inv];cases hq:L.find? λ j=>g j==g i with
  |none=>
   have:=List.find?_eq_none.1 hq i hi;simp at this
  |some j=>
   have h1:=List.find?_some hq;have h2:=List.mem_of_find?_eq_some hq;simp only[zD]at h1;rw[hinjg j h2 i hi h1]
 have hinv2:∀o i,inv o=some i->i∈L/\g i=o:=by
  intro o i h;exact⟨List.mem_of_find?_eq_some h,by simpa using List.find?_some h⟩
 let ι':Nat->Option Nat:=λ o=>match inv o with|some i=>ιc' i|none=>ι o
 have hι'in:∀i∈L,ι' (g i)=ιc' i:=λ i hi=>by simp only[ι',hinv i hi]
 have hι'out:∀o,inv o=none->ι' o=ι o:=λ o ho=>by simp only[ι',ho]
 have hXout:¬fl->∀b,ownX ι' X b->ownX ιc' Xc b:=by
  intro hfl b hb;by_cases hex:∃i,ιc i=some b
  ·obtain⟨i,hi⟩:=hex;exact .inr ⟨i,(hstay i b hi).1⟩
  ·have hno:∀i,ιc i≠some b:=λ i hi=>hex ⟨i,hi⟩
   rcases hb with hb|⟨o,hb⟩
   ·exact .inl ⟨hfl, .inl hb,hno⟩
   ·cases ho:inv o with
    |none=>rw[hι'out o ho]at hb;exact .inl ⟨hfl, .inr ⟨o,hb⟩,hno⟩
    |some i=>
     obtain⟨g1,g2⟩:=hinv2 o i ho;subst g2;rw[hι'in i g1]at hb;exact .inr ⟨i,hb⟩
 have hkeep2:∀b,b<w.heap.size->(∀i∈L,ι (g i)≠some b)->w'.heap[b]? =w.heap[b]? :=λ b hb hn=>hkeep b hb (λ i hi=>hn i (hιcL i b hi).1 (hιcL i b hi).2)
 have h1:∀o b,ι o=some b->ι' o=some b/\bsz w' b=bsz w b:=by
  intro o b hb;refine⟨?_,?_⟩
  ·cases ho:inv o with
   |none=>rw[hι'out o ho];exact hb
   |some i=>
    obtain⟨g1,g2⟩:=hinv2 o i ho;subst g2;rw[hι'in i g1];exact(hstay i b (by rw[hιc i g1];exact hb)).1
  ·by_cases hex:∃i,ιc i=some b
   ·obtain⟨i,hi⟩:=hex;exact(hstay i b hi).2
   ·simp only[bsz,hkeep b (hS.free o b hb).2 (λ i hi=>hex ⟨i,hi⟩)]
 have h2:∀b,ownX ι' X b->ownX ι X b\/w.heap.size<=b:=by
  rintro b (hb|⟨o,hb⟩)
  ·exact .inl (.inl hb)
  ·cases ho:inv o with
   |none=>rw[hι'out o ho]at hb;exact .inl (.inr ⟨o,hb⟩)
   |some i=>
    obtain⟨g1,g2⟩:=hinv2 o i ho;subst g2;rw[hι'in i g1]at hb;rcases(hfree' i b hb).2.1 with⟨i',h⟩|h
    ·exact .inl (.inr ⟨_,(hιcL i' b h).2⟩)
    ·exact .inr h
 have h3:∀b,b<w.heap.size->¬ownX ι X b->w'.heap[b]? =w.heap[b]? :=λ b hb hn=>hkeep2 b hb (λ i _ h=>hn (.inr ⟨_,h⟩))
 have hnd':((Zb8 g M').map (·.1)).Nodup:=by
  have e1:(Zb8 g M').map (·.1)=(M'.map (·.1)).map g:=by simp[Zb8]
  have e2:(M.map λ q=>g q.1)=(M.map (·.1)).map g:=by simp
  rw[e1,hids,<-e2];exact hnd
 have hnot:∀o,inv o=none->o∉(Zb8 g M').map (·.1):=by
  intro o ho hm;simp only[Zb8,gN,uN,Function.comp]at hm;obtain⟨q,hq,rfl⟩:=hm;have:q.1∈L:=by show q.1∈M.map (·.1);rw[<-hids];exact jP hq
  rw[hinv _ this]at ho;cases ho
 have hat:∀i∈L,wrs (Zb8 g M') S.objs (g i)=(Zam M' i).ren g:=by
  intro i hi;have g3:i∈M'.map (·.1):=by rw[hids];exact hi
  obtain⟨q,hq,rfl⟩:=uN.1 g3;rw[ZgR M' (by rw[hids];exact hndL) q hq];exact ZzZ (Zb8 g M') S.objs hnd' (g q.1,q.2.ren g) (uN.2 ⟨q,hq,rfl⟩)
 have hbase:Hold B X w0 n {env:=S.env,objs:=wrs (Zb8 g M') S.objs} a w' ι':=by
  refine⟨hS.size,hS.defers,⟨hos.trans hS.frame.os,htape.trans hS.frame.tape,hout.trans hS.frame.output,gR hS.frame.size hsize,λ b hb=>?_⟩,hS.hB,hS.hXB,?_,?_,λ t=>(hS.env t).move h1 h2 h3,?_,?_⟩
  ·rw[<-hS.frame.keep b hb];exact hkeep2 b (gB (hS.hB b hb) hS.frame.size) (λ i _ h=>(hS.free _ b h).1 hb)
  ·have mixed:∀o i b,inv o=none->S.objs o≠ .gone->ι o=some b->i∈L->ιc' i=some b->False:=by
    intro o i b ho hg e1 g1 e2;rcases(hfree' i b e2).2.1 with⟨i',h⟩|h
    ·obtain⟨g3,g4⟩:=hιcL i' b h;rw[hS.inj _ _ b hg (hlive i' g3) e1 g4,hinv i' g3]at ho;cases ho
    ·have:=(hS.free o b e1).2;omega
   intro o o' b f1 f2 e1 e2;simp only at f1 f2;cases ho:inv o with
   |none=>
    rw[hι'out o ho]at e1;rw[ZiX _ _ o (hnot o ho)]at f1;cases ho':inv o' with
    |none=>
     rw[hι'out o' ho']at e2;rw[ZiX _ _ o' (hnot o' ho')]at f2;exact hS.inj _ _ b f1 f2 e1 e2
    |some i=>
     obtain⟨g1,g2⟩:=hinv2 o' i ho';subst g2;rw[hι'in i g1]at e2;exact(mixed o i b ho f1 e1 g1 e2).elim
   |some i=>
    obtain⟨g1,g2⟩:=hinv2 o i ho;subst g2;rw[hι'in i g1]at e1;cases ho':inv o' with
    |none=>
     rw[hι'out o' ho']at e2;rw[ZiX _ _ o' (hnot o' ho')]at f2;exact(mixed o' i b ho' f2 e2 g1 e1).elim
    |some i'=>
     obtain⟨g3,g4⟩:=hinv2 o' i' ho';subst g4;rw[hι'in i' g3]at e2;rw[hat i g1]at f1;rw[hat i' g3]at f2;rw[hinj' i i' b (λ he=>f1 (ZiN.2 he)) (λ he=>f2 (ZiN.2 he)) e1 e2]
  ·intro o b hb;cases ho:inv o with
   |none=>rw[hι'out o ho]at hb;exact⟨(hS.free o b hb).1,gB (hS.free o b hb).2 hsize⟩
   |some i=>
    obtain⟨g1,g2⟩:=hinv2 o i ho;subst g2;rw[hι'in i g1]at hb;obtain⟨f1,f2,f3⟩:=hfree' i b hb;refine⟨λ hB=>?_,f3⟩;rcases f2 with⟨i',h⟩|h
    ·exact(hS.free _ b (hιcL i' b h).2).1 hB
    ·have:=hS.hB b hB;have:=hS.frame.size;omega
  ·intro o;simp only;cases ho:inv o with
   |none=>
    rw[ZiX _ _ o (hnot o ho)];exact(hS.objs o).move (hι'out o ho) (λ hg b hb=>hkeep2 b (hS.free o b hb).2 (λ i hi hb'=>by rw[hS.inj _ _ b hg (hlive i hi) hb hb',hinv i hi]at ho;cases ho)) h1 h2 h3
   |some i=>
    obtain⟨g1,g2⟩:=hinv2 o i ho;subst g2;rw[hat i g1];have g3:i∈M'.map (·.1):=by rw[hids];exact g1
    obtain⟨q,hq,rfl⟩:=uN.1 g3;simp only[uW]at hMo';have:=hobs' q.1;rw[ZgR M' (by rw[hids];exact hndL) q hq]at this|-;by_cases hfl:fl
    ·exact Zw6 hι'in g1 (hMo' q hq) ((hflat hfl).1.2.2 q hq) this
    ·exact Zw5 hι'in (hXout hfl) g1 (hMo' q hq) this
  ·intro o b hb;obtain⟨g1,g2,g3⟩:=hS.stay o b hb;obtain⟨g4,g5⟩:=h1 o b g2;exact⟨g1,g4,g5.trans g3⟩
 refine hk (a.put dst v) w' ι' ?_;have hrv:PV.At w' ι' X (r.ren g) v:=by
  by_cases hfl:fl
  ·exact Zqk hι'in 4 r v hro (hflat hfl).1.1 hr
  ·exact Zqj hι'in (hXout hfl) 4 r v hro hr
 have:=hbase.put (dst:=dst) (x:=r.ren g) (v:=v) hd hrv;cases dst<;>exact this
theorem ZsL (htb:w0.tabs=tabs P)(hS:Hold B X w0 n S a w ι){dst:Option Nat}{f:Operand}{as:Array Operand}{tys:Array TypeId}{ty:TypeId}{pos:String}{af:Array Edge}{gd:Option (Nat×Bool)}
  (hd:∀t,dst=some t->t<n)(hf:Zax f=true)(hx:∀x∈as.toList,Zax x=true){e:Eff}(hc:CallCondM P S.objs (S.ev f) (as.toList.map S.ev) e)
  {next:Act->World->Prop}{Q:Exit->Act->World->Prop}(hk:∀a' w' ι',Hold B X w0 n (S.app dst e) a' w' ι'->next a' w'):
  (Oper.mk dst (.call ⟨.value f,as,tys⟩) ty pos af gd).wp P a w next Q:=by
 obtain⟨h,caps,args,M,M',r,g,fl,hfv,hargs,hcm,hids,hao,hMo,hro,hMo',hnd,hobs,h2000,hng,hflat,rfl⟩:=hc;have hpf:=hS.ev hf;have hfn:∃carr:Array Value,a.eval f= .func (.func h) #[] carr/\carr.size=caps.length/\∀(j:Nat) p v,caps[j]? =some p->carr[j]? =some v->PV.At w ι X p v:=by
  generalize a.eval f=fv at hpf;generalize S.ev f=pf at hpf hfv;unfold ZfI at hfv;split at hfv
  ·cases hfv;cases hpf with
   |d _ _ h=>cases h with|fn _ _ arr hsz h=>exact⟨arr,rfl,by simpa using hsz,λ j p v hj hv=>by
                 rw[uI]at hj;rename_i caps0;cases hq:caps0[j]? with
                 |none=>rw[hq]at hj;cases hj
                 |some q=>rw[hq]at hj;cases hj;exact .d _ _ (h j q v hq hv)⟩
  ·cases hfv;cases hpf with
   |fn _ _ arr hsz h=>exact⟨arr,rfl,hsz,h⟩
  ·cases hfv
 obtain⟨carr,hfe,hcs,hcat⟩:=hfn;refine ZnN (vs:=as.map a.eval++carr) htb hS hd hargs hcm hids hao hMo hro hMo' hnd hobs h2000 hng hflat (λ hcb=>?_) (by simp[hcs]) (λ j p v hj2 hv=>?_) _ hk
 ·simp only[execOp,resolve,hfe,Deferred.ofValue,Sem.run_bind,Sem.run_pure,Result.andThen_ok,invoke,Array.empty_append,ZkT hcb]
 ·exact Zrm hS hx hcs hcat j p v hj2 hv
theorem ZxC {x:Value}{T:TypeId}{m:String}{h:FuncId}{v:Value}{as:Array Value}(hcb:ZhR P h)(hm:(method (P.types.size+Made.depth) T x m).run P w= .ok (h,v) w):
  (invoke (.fn (.method m) #[]) (#[.iface T x]++as)).run P w= .ok (.enter h (#[v]++as)) w:=by
 have e1:(#[Value.iface T x]++as)[0]? =some (.iface T x):=by rw[gJ];rfl
 have e2:(#[Value.iface T x]++as).extract 1 (#[Value.iface T x]++as).size=as:=by
  apply Array.ext';simp
 simp only[invoke,e1,e2,callMethod,Sem.run_bind,run_program,Result.andThen_ok,hm,ZkT hcb]
theorem ZuG (htb:w0.tabs=tabs P)(hS:Hold B X w0 n S a w ι){dst:Option Nat}{r:Operand}{m:String}{as:Array Operand}{tys:Array TypeId}{ty:TypeId}{pos:String}{af:Array Edge}{gd:Option (Nat×Bool)}
  (hd:∀t,dst=some t->t<n)(hr:Zax r=true)(hx:∀x∈as.toList,Zax x=true){g:FuncId}{recv:PV}{rd:List Nat}(hI:Inv P S.objs (S.ev r) m g recv rd){e:Eff}(hc:CallCondM P S.objs (.d (.fn g [])) (recv::as.toList.map S.ev) e)
  {next:Act->World->Prop}{Q:Exit->Act->World->Prop}(hk:∀a' w' ι',Hold B X w0 n (S.app dst e) a' w' ι'->next a' w'):
  (Oper.mk dst (.call ⟨.invoke r m,as,tys⟩) ty pos af gd).wp P a w next Q:=by
 obtain⟨h,caps,args,M,M',r',g',fl,hfv,hargs,hcm,hids,hao,hMo,hro,hMo',hnd,hobs,h2000,hng,hflat,rfl⟩:=hc;cases hfv;obtain⟨T,o,hrv,hI⟩:=hI;have hpr:=hS.ev hr;rw[hrv]at hpr;generalize hva:a.eval r=va at hpr;cases hpr with
 |ifp _ _ b hι=>
  obtain⟨v,hm,hv⟩:∃v,(method (P.types.size+Made.depth) T (.pointer (some ⟨b,0,none⟩)) m).run P w= .ok (g,v) w/\PV.At w ι X recv v:=by
   rcases hI with⟨h1,rfl,_⟩|⟨t,h1,h2,rfl,_⟩
   ·exact⟨_,h1 _ w,by have:=PV.At.ptr (w:=w) (X:=X) o 0 0 0 b hι;simpa using this⟩
   ·have hp:PV.At w ι X (.ptr o 0 0 0) (.pointer (some ⟨b,0,none⟩)):=by have:=PV.At.ptr (w:=w) (X:=X) o 0 0 0 b hι;simpa using this
    have h2':(tyi P t).ok=true/\_:=h2;obtain⟨v,hl,hv⟩:=ZjH (P:=P) hS hp h2'.1 h2'.2;refine⟨v,?_,hv⟩;simp only[Instr.loadAt,Instr.sureAddr,Sem.run_bind,Sem.run_pure,Result.andThen_ok]at hl;rw[h1 b w];simp only[Sem.run_bind,hl,Result.andThen_ok,Sem.run_pure]
  refine ZnN (vs:=#[v]++as.map a.eval) htb hS hd hargs hcm hids hao hMo hro hMo' hnd hobs h2000 hng hflat (λ hcb=>?_) (by simp;omega) (λ j p u hj2 hu=>?_) _ hk
  ·simp only[execOp,resolve,hva,Sem.run_bind,Sem.run_pure,Result.andThen_ok,ZxC hcb hm]
  ·simp only[yT,yO]at hj2;cases j with
   |zero=>
    rw[gJ]at hu;simp at hj2 hu;subst hj2;subst hu;exact hv
   |succ j=>
    refine Zrm (caps:=[]) (carr:=#[]) hS hx rfl (by simp) j p u (by simpa using hj2) ?_;rw[gJ]at hu;simpa using hu
theorem Zn3 (htb:w0.tabs=tabs P)(hS:Hold B X w0 n S a w ι){o:Oper}(hpl:Oper.plain n o=true){e:Eff}(h:Zgr P own o S e){next:Act->World->Prop}{Q:Exit->Act->World->Prop}
  (hk:∀a' w' ι',Hold B X w0 n (S.app o.dst e) a' w' ι'->next a' w'):o.wp P a w next Q:=by
 obtain⟨dst,op,ty,pos,af,gd⟩:=o;have plain:(sem P own S.ev S.objs dst op).1->e=(sem P own S.ev S.objs dst op).2->(Oper.mk dst op ty pos af gd).wp P a w next Q:=by
  intro h1 h2;subst h2;exact(Zyw htb hS (Oper.mk dst op ty pos af gd) hpl h1).wp hk
 cases op with
 |call c=>
  obtain⟨cal,as,tys⟩:=c;cases cal with
  |value f=>
   simp only[Oper.plain,uO,uW]at hpl;rcases h.symm with hc|⟨r,hc,rfl⟩
   ·exact ZsL htb hS (λ t ht=>by have:=hpl.1.2;subst ht;simpa using this) (hpl.1.1 f (by simp[Op.operands,Call.operands])) (λ x hx=>hpl.1.1 x (by simp[Op.operands,Call.operands];right;simpa using hx)) hc hk
   refine ZsM htb hS (λ t ht=>by have:=hpl.1.2;simp only[ht]at this;simpa using this) (hpl.1.1 f (by simp[Op.operands,Call.operands])) (λ x hx=>hpl.1.1 x (by simp[Op.operands,Call.operands];right;simpa using hx)) hc ?_;intro a' w' ι' h';refine hk a' w' ι' ?_;rw[Zg5];exact h'
  |builtin b=>exact plain h.1 h.2
  |invoke r m=>
   simp only[Oper.plain,uO,uW]at hpl;obtain⟨g,recv,rd,e',hI,hc,rfl⟩:=h;exact ZuG htb hS (λ t ht=>by have:=hpl.1.2;subst ht;simpa using this) (hpl.1.1 r (by simp[Op.operands,Call.operands])) (λ x hx=>hpl.1.1 x (by simp[Op.operands,Call.operands];right;simpa using hx)) hI hc hk
 |_=>exact plain h.1 h.2
theorem Zn5 (htb:w0.tabs=tabs P)(hS:Hold B X w0 n S a w ι){i:Nat}{o:Oper}(hi:ops[i]? =some o)(hpl:Oper.plain n o=true){e:Eff}(h:ZcI P own ops.toList o S e){next:Act->World->Prop}{Q:Exit->Act->World->Prop}
  (hk:∀a' w' ι',Hold B X w0 n (S.app o.dst e) a' w' ι'->next a' w'):Go.wpOp P ops Q i next a w:=by
 unfold Go.wpOp;rw[hi];simp only;unfold ZcI at h;cases hg:o.guard with
 |none=>
  rw[hg]at h;simp only at h;simp only[Region.wanted,hg,if_true];exact .inl (Zn3 htb hS hpl h hk)
 |some q=>
  obtain⟨j,want⟩:=q;rw[hg]at h;obtain⟨b,hb,h⟩:=h;have hy:yielded ops a.tmps j=b:=by
   unfold grd at hb;unfold yielded;simp only[qM]at hb;cases ht:(ops[j]?).bind (·.dst)with
   |none=>rw[ht]at hb;cases hb
   |some t=>
    rw[ht]at hb;simp only at hb;have he:=hS.env t;simp only[Option.bind_some];split at hb
    ·rename_i b' heq;cases hb;rw[heq]at he;have hv:=Zh3 he;rw[qG]at hv;cases hq:a.tmps[t]? with
     |none=>rw[hq]at hv;cases hv
     |some v=>rw[hq]at hv;simp at hv;subst hv;rfl
    ·rename_i heq;cases hb;rw[heq]at he;generalize hv:a.tmps.getD t undef=v at he;cases he;rw[qG]at hv;cases hq:a.tmps[t]? with
     |none=>rfl
     |some v=>rw[hq]at hv;simp at hv;subst hv;rfl
    ·cases hb
  simp only[Region.wanted,hg,hy];by_cases hw:b=some want
  ·rw[if_pos hw]at h;subst hw;simp only[beq_self_eq_true,if_true];exact .inl (Zn3 htb hS hpl h hk)
  ·rw[if_neg hw]at h;subst h;have:(b==some want)=false:=by simpa using hw
   rw[this];simp only[qB,jE];refine hk _ _ ι ?_;rw[ZaM];simp only[Oper.plain,uO]at hpl;exact hS.put (λ t ht=>by have:=hpl.1.2;simp only[ht]at this;simpa using this) .und
end
section
variable {P:Program}{own:Nat->Bool}{objs objs':Nat->Ob}{B X:Nat->Prop}{w0:W0}{w:World}{n:Nat}{S:St}{a:Act}{ι:Nat->Option Nat}{ops:Array Oper}
theorem Zr9 {g:Nat->Nat}{fl:Prop}:∀(xs ps:List PV),(∀o∈xs.flatMap (PV.refs objs 4),objs' o=objs o)->Zek objs g fl xs ps->Zek objs' g fl xs ps:=by
 intro xs
 induction xs with
 |nil=>intro ps _ h;cases ps with
       |nil=>trivial
       |cons=>exact h.elim
 |cons x xs ih=>
  intro ps hr h;cases ps with
  |nil=>exact h.elim
  |cons p ps=>
   simp only[gE,yN]at hr;obtain⟨h1,h2⟩:=Zkj (objs:=objs) (objs':=objs') 4 x (λ o ho=>hr o (.inl ho));refine⟨?_,ih ps (λ o ho=>hr o (.inr ho)) h.2⟩;rw[h1,h2];exact h.1
theorem ZnM {f:PV}{xs:List PV}{e:Eff}(ha:Zco e objs objs')(h:CallCondM P objs f xs e):CallCondM P objs' f xs e:=by
 obtain⟨h,caps,args,M,M',r,g,fl,hfv,hargs,hcalls,hids,hao,hMo,hro,hMo',hnd,hobs,h2000,hng,hflat,rfl⟩:=h;have hrd:∀o∈(xs++caps).flatMap (PV.refs objs 4),objs' o=objs o:=ha.1;refine⟨h,caps,args,M,M',r,g,fl,hfv,Zr9 _ _ hrd hargs,hcalls,hids,hao,hMo,hro,hMo',hnd,λ q hq=>?_,h2000,hng,λ hfl=>⟨(hflat hfl).1,λ x hx o ho=>?_⟩,?_⟩
 ·rw[<-hobs q hq];have hq':q.1∈M'.map (·.1):=by rw[hids];exact jP hq
  obtain⟨q',hq',he⟩:=uN.1 hq';have:=ha.2 (g q'.1,q'.2.ren g) (uN.2 ⟨q',hq',rfl⟩);rw[<-he];exact this
 ·have:=(Zkj (objs:=objs) (objs':=objs') 4 x (λ o ho=>hrd o (kJ.2 ⟨x,hx,ho⟩))).2;rw[this]at ho;exact(hflat hfl).2 x hx o ho
 ·rw[(ZmJ (objs:=objs) (objs':=objs') 4 _ hrd).2]
theorem Zn2 {o:Oper}{S S':St}{e:Eff}(hev:∀x∈o.op.operands,S'.ev x=S.ev x)(ha:Zco e S.objs S'.objs)(h:Zgr P own o S e):Zgr P own o S' e:=by
 obtain⟨dst,op,ty,pos,af,gd⟩:=o;simp only at hev;have plain:(sem P own S.ev S.objs dst op).1/\e=(sem P own S.ev S.objs dst op).2->(sem P own S'.ev S'.objs dst op).1/\e=(sem P own S'.ev S'.objs dst op).2:=by
  rintro⟨h1,rfl⟩;rw[ZxV hev h1 ha];exact⟨h1,rfl⟩
 cases op with
 |call c=>
  obtain⟨cal,as,tys⟩:=c;cases cal with
  |value f=>
   have hf:S'.ev f=S.ev f:=hev f (by simp[Op.operands,Call.operands]);have hm:as.toList.map S'.ev=as.toList.map S.ev:=yE λ x hx=>hev x (by simp[Op.operands,Call.operands];right;simpa using hx)
   rcases h.symm with hc|⟨r,hc,rfl⟩
   ·refine .inr ?_;show CallCondM P S'.objs (S'.ev f) (as.toList.map S'.ev) e;rw[hf,hm];exact ZnM ha hc
   obtain⟨h1,h2⟩:=ZmJ (objs:=S.objs) (objs':=S'.objs) 4 (as.toList.map S.ev) ha.1;refine .inl ⟨r,?_,?_⟩
   ·unfold ZhQ at hc|-;rw[hf,hm,h1,h2];exact hc
   ·simp only[hm,h2]
  |builtin b=>exact plain h
  |invoke r m=>
   have hr:S'.ev r=S.ev r:=hev r (by simp[Op.operands,Call.operands]);have hm:as.toList.map S'.ev=as.toList.map S.ev:=yE λ x hx=>hev x (by simp[Op.operands,Call.operands];right;simpa using hx)
   obtain⟨g,recv,rd,e',hI,hc,rfl⟩:=h;refine⟨g,recv,rd,e',?_,?_,rfl⟩
   ·show Inv P S'.objs (S'.ev r) m g recv rd;rw[hr];obtain⟨T,o,h1,h2⟩:=hI;refine⟨T,o,h1,h2.imp id ?_⟩;rintro⟨t,g1,g2,g3,rfl⟩;have ho:S'.objs o=S.objs o:=ha.1 o (by simp);have e1:Zcz (tyi P t) S'.objs (.ptr o 0 0 0)=Zcz (tyi P t) S.objs (.ptr o 0 0 0):=by simp only[Zcz,ho]
    exact⟨t,g1,by rw[e1];exact g2,by rw[e1];exact g3,rfl⟩
   ·show CallCondM P S'.objs (.d (.fn g [])) (recv::as.toList.map S'.ev) e';rw[hm];exact ZnM ⟨λ o ho=>ha.1 o (Ba _ ho),ha.2⟩ hc
 |_=>exact plain h
theorem Zn4 {all:List Oper}{o:Oper}{S S':St}{e:Eff}(hev:∀x∈o.op.operands,S'.ev x=S.ev x)(hgd:∀j w,o.guard=some (j,w)->grd all S' j=grd all S j)(ha:Zco e S.objs S'.objs)
  (h:ZcI P own all o S e):ZcI P own all o S' e:=by
 unfold ZcI at h|-;cases hg:o.guard with
 |none=>rw[hg]at h;exact Zn2 hev ha h
 |some q=>
  obtain⟨j,want⟩:=q;rw[hg]at h;obtain⟨b,hb,h⟩:=h;refine⟨b,(hgd j want hg).trans hb,?_⟩;by_cases hw:b=some want
  ·rw[if_pos hw]at h|-;exact Zn2 hev ha h
  ·rw[if_neg hw]at h|-;exact h
def Zh2 (ops:Array Oper)(x y:Oper)(fx fy:Za9):Bool:=
 x.apart ops y&&fx.2.all (λ o=> !fy.1.contains o&& !fy.2.contains o)&&fy.2.all (λ o=> !fx.1.contains o)
theorem Znk {S:St}{dst:Option Nat}{e:Eff}(t:Nat)(h:dst≠some t):(S.app dst e).env t=S.env t:=by
 unfold St.app;cases dst with
 |none=>rfl
 |some d=>exact if_neg (λ he=>h (by rw[he]))
theorem Zjd {S:St}{dst:Option Nat}{e:Eff}(o:Nat)(h:o∉e.wr.map (·.1)):(S.app dst e).objs o=S.objs o:=ZiX _ _ o h
theorem Zoh {ops:Array Oper}{S:St}{dst:Option Nat}{e:Eff}{y:Oper}(h:∀d,dst=some d->d∉y.looksAt ops):∀x∈y.op.operands,(S.app dst e).ev x=S.ev x:=by
 intro x hx;cases x with
 |tmp t=>
  refine Znk t (λ he=>h t he ?_);simp only[Oper.looksAt,yN,List.mem_filterMap];exact .inl ⟨.tmp t,by simpa using hx,rfl⟩
 |_=>rfl
theorem ZoG {ops:Array Oper}{S:St}{dst:Option Nat}{e:Eff}{y:Oper}(h:∀d,dst=some d->d∉y.looksAt ops):∀j w,y.guard=some (j,w)->grd ops.toList (S.app dst e) j=grd ops.toList S j:=by
 intro j wnt hg;unfold grd;simp only[qM];cases ht:(ops[j]?).bind (·.dst)with
 |none=>rfl
 |some t=>
  simp only;rw[Znk t];intro he;refine h t he ?_;simp only[Oper.looksAt,yN,hg]
  right
  simp only[ht,Option.toList_some,uR]
theorem Zz0 {objs:Nat->Ob}{o:Nat}{ob:Ob}:∀(l:List (Nat×Ob)),o∉l.map (·.1)->wrs l (upd o ob objs)=upd o ob (wrs l objs):=by
 intro l
 induction l with
 |nil=>intro _;rfl
 |cons q l ih=>
  intro h;simp only[uX,yH,not_or]at h;show upd q.1 q.2 (wrs l (upd o ob objs))=upd o ob (upd q.1 q.2 (wrs l objs));rw[ih h.2]
  funext i
  simp only[upd];by_cases c1:i=q.1
  ·subst c1;rw[if_pos rfl,if_neg (λ he=>h.1 he.symm),if_pos rfl]
  ·rw[if_neg c1,if_neg c1]
theorem ZzY :∀(l1 l2:List (Nat×Ob)) (objs:Nat->Ob),(∀o∈l1.map (·.1),o∉l2.map (·.1))->wrs l2 (wrs l1 objs)=wrs l1 (wrs l2 objs):=by
 intro l1
 induction l1 with
 |nil=>intro l2 objs _;rfl
 |cons q l1 ih=>
  intro l2 objs h;show wrs l2 (upd q.1 q.2 (wrs l1 objs))=upd q.1 q.2 (wrs l1 (wrs l2 objs));rw[Zz0 l2 (h q.1 (by simp)),ih l2 objs (λ o ho=>h o (by simp only[uX,yH];exact .inr ho))]
theorem Zr3 {S:St}{d1 d2:Option Nat}{e1 e2:Eff}(hd:∀d,d1=some d->d2≠some d)(hw:∀o∈e1.wr.map (·.1),o∉e2.wr.map (·.1)):
  (S.app d1 e1).app d2 e2=(S.app d2 e2).app d1 e1:=by
 unfold St.app;simp only
 congr 1
 ·cases d1 with
  |none=>rfl
  |some t1=>
   cases d2 with
   |none=>rfl
   |some t2=>
    have hne:t1≠t2:=λ he=>hd t1 rfl (by rw[he])
    funext i
    simp only[upd];by_cases c1:i=t1
    ·subst c1;rw[if_neg hne,if_pos rfl,if_pos rfl]
    ·rw[if_neg c1,if_neg c1]
 ·exact ZzY _ _ _ hw
theorem swap {x y:Oper}{ex ey:Eff}{S:St}(hx:ZcI P own ops.toList x S ex)(hy:ZcI P own ops.toList y (S.app x.dst ex) ey)(hc:Zh2 ops x y ex.foot ey.foot=true):
  ZcI P own ops.toList y S ey/\ZcI P own ops.toList x (S.app y.dst ey) ex/\(S.app x.dst ex).app y.dst ey=(S.app y.dst ey).app x.dst ex:=by
 unfold Zh2 at hc;simp only[uO,Eff.foot,yK,uW]at hc;obtain⟨⟨hap,h1⟩,h2⟩:=hc;obtain⟨p1,p2,p3⟩:=Oper.apart_spec hap;have w1:∀o∈ex.wr.map (·.1),o∉ey.rd/\o∉ey.wr.map (·.1):=by
  intro o hw;have:=h1 o hw;simp only[yJ,qJ]at this;exact this
 have w2:∀o∈ey.wr.map (·.1),o∉ex.rd:=by
  intro o hw;have:=h2 o hw;simpa using this
 have agy:Zco ey (S.app x.dst ex).objs S.objs:=
  ⟨λ o ho=>(Zjd o (λ hw=>(w1 o hw).1 ho)).symm,λ q hq=>(Zjd q.1 (λ hw=>(w1 q.1 hw).2 (jP hq))).symm⟩
 have agx:Zco ex S.objs (S.app y.dst ey).objs:=
  ⟨λ o ho=>Zjd o (λ hw=>w2 o hw ho),λ q hq=>Zjd q.1 (λ hw=>(w1 q.1 (jP hq)).2 hw)⟩
 exact⟨Zn4 (λ q hq=>(Zoh p1 q hq).symm) (λ j w hg=>(ZoG p1 j w hg).symm) agy hy,Zn4 (Zoh p3) (ZoG p3) agx hx,
  Zr3 p2 (λ o ho=>(w1 o ho).2)⟩
def Zg1 (P:Program)(own:Nat->Bool)(ops:Array Oper)(E:Nat->Eff):List Nat->St->St->Prop
 |[],S,S'=>S'=S
 |i::rest,S,S'=>∃o,ops[i]? =some o/\ZcI P own ops.toList o S (E i)/\Zg1 P own ops E rest (S.app o.dst (E i)) S'
theorem ZxG {all:List Oper}:∀(l:List Oper) (S S':St) (fs:List Za9),Zi5 P own all l S S' fs->∃es:List Eff,es.length=l.length/\fs=es.map Eff.foot/\
  ∀(E:Nat->Eff) (k:Nat) (ops:Array Oper),ops.toList=all->(∀j o,l[j]? =some o->ops[k+j]? =some o)->(∀j e,es[j]? =some e->E (k+j)=e)->Zg1 P own ops E (List.range' k l.length) S S':=by
 intro l
 induction l with
 |nil=>rintro S S' fs ⟨rfl,rfl⟩;exact⟨[],rfl,rfl,λ E k ops _ _ _=>rfl⟩
 |cons o rest ih=>
  rintro S S' fs ⟨e,fs',h1,h2,rfl⟩;obtain⟨es,hl,rfl,hr⟩:=ih _ _ _ h2;refine⟨e::es,by simp[hl],rfl,λ E k ops hall hops hE=>?_⟩;simp only[uV,List.range'_succ];have hEk:E k=e:=hE 0 e rfl;refine⟨o,hops 0 o rfl,by rw[hall,hEk];exact h1,?_⟩;rw[hEk];exact hr E (k+1) ops hall (λ j q hj=>by rw[show k+1+j=k+(j+1) by omega];exact hops (j+1) q (by simpa using hj)) (λ j q hj=>by rw[show k+1+j=k+(j+1) by omega];exact hE (j+1) q (by simpa using hj))
theorem Zll {E:Nat->Eff}{k:Nat}{ok:Oper}(hk:ops[k]? =some ok):∀(pre post:List Nat) (S Sf:St),Zg1 P own ops E (pre++k::post) S Sf->(∀i∈pre,∀oi,ops[i]? =some oi->Zh2 ops oi ok (E i).foot (E k).foot=true)->
  ZcI P own ops.toList ok S (E k)/\Zg1 P own ops E (pre++post) (S.app ok.dst (E k)) Sf:=by
 intro pre
 induction pre with
 |nil=>
  rintro post S Sf ⟨o,ho,h1,h2⟩ _;rw[hk]at ho;cases ho;exact⟨h1,h2⟩
 |cons i pre ih=>
  rintro post S Sf ⟨o,ho,h1,h2⟩ hc;obtain⟨h3,h4⟩:=ih post _ Sf h2 (λ j hj=>hc j (uM _ hj));obtain⟨g1,g2,g3⟩:=swap h1 h3 (hc i (by simp) o ho);refine⟨g1,o,ho,g2,?_⟩;rw[<-g3];exact h4
theorem Zsr (ops:Array Oper)(Ls:Nat->Prop)(hcl:∀k o,Ls k->ops[k]? =some o->∀e∈o.after,Region.binds .any e=true->e.on<k/\Ls e.on):
  ∀k o,ops[k]? =some o->(∀e∈o.after,Region.binds .any e=true->e.on<k/\Ls e.on)->∀i,((Region.before ops).getD k 0).testBit i=true->Ls i:=by
 have main:∀(l:List Oper) (m:Nat) (acc:Array Nat),acc.size=m->(∀j o,l[j]? =some o->ops[m+j]? =some o)->
   (∀k o,k<m->ops[k]? =some o->(∀e∈o.after,Region.binds .any e=true->e.on<k/\Ls e.on)->∀i,(acc.getD k 0).testBit i=true->Ls i)->
   ∀k o,k<m+l.length->ops[k]? =some o->(∀e∈o.after,Region.binds .any e=true->e.on<k/\Ls e.on)->
    ∀i,((l.foldl (λ acc o=>acc.push (o.after.foldl (λ s e=>if Region.binds .any e then s|||2^e.on|||acc.getD e.on 0 else s) 0)) acc).getD k 0).testBit i=true->Ls i:=by
  intro l
  induction l with
  |nil=>intro m acc _ _ hacc k o hk;simpa using hacc k o (by simpa using hk)
  |cons q l ih=>
   intro m acc hm hl hacc k o hk;simp only[jB];refine ih (m+1) _ (by simp[hm]) (λ j o' hj=>by rw[show m+1+j=m+(j+1) by omega];exact hl (j+1) o' (by simpa using hj)) ?_ k o (by simp at hk;omega);intro k o hk hok he i hi;by_cases hkm:k<m
   ·refine hacc k o hkm hok he i ?_;rw[qG,Array.getElem?_push,if_neg (by omega)]at hi;rw[qG];exact hi
   ·have hkm:k=m:=by omega
    subst hkm;have hq:ops[k]? =some q:=by have:=hl 0 q rfl;simpa using this
    rw[hq]at hok;cases hok;rw[qG,Array.getElem?_push,if_pos hm.symm]at hi;simp only[yQ]at hi;rw[<-Array.foldl_toList]at hi;have fold:∀(es:List Edge) (s:Nat),(∀e∈es,Region.binds .any e=true->e.on<k/\Ls e.on)->(s.testBit i=true->Ls i)->(es.foldl (λ s e=>if Region.binds .any e then s|||2^e.on|||acc.getD e.on 0 else s) s).testBit i=true->Ls i:=by
     intro es
     induction es with
     |nil=>intro s _ hs h;exact hs h
     |cons e es ihe=>
      intro s hes hs h;simp only[jB]at h;refine ihe _ (λ e' he'=>hes e' (uM _ he')) ?_ h;intro h';split at h'
      ·rename_i hb;simp only[Nat.testBit_or,qY]at h';obtain⟨hlt,hLs⟩:=hes e (by simp) hb;rcases h' with(h'|h')|h'
       ·exact hs h'
       ·have:i=e.on:=by
         rw[Nat.testBit_two_pow]at h';simpa[eq_comm]using h'
        rw[this];exact hLs
       ·have hsome:e.on<ops.size:=by
         have:=(qX.1 hq).1;omega
        exact hacc e.on ops[e.on] hlt (uT hsome) (hcl e.on _ hLs (uT hsome)) i h'
      ·exact hs h'
    exact fold _ 0 (λ e he'=>he e (by simpa using he')) (by simp) hi
 intro k o hok he i hi;unfold Region.before at hi;rw[<-Array.foldl_toList]at hi;have hk:=(qX.1 hok).1;exact main ops.toList 0 #[] rfl (λ j o' hj=>by simpa using hj) (λ k o hk=>by omega) k o (by simpa using hk) hok he i hi
def Zhx (n:Nat)(ops:Array Oper)(draw:Bool)(fs:List Za9):Bool:=
 ops.toList.all (Oper.plain n)&&
 (!draw||(ops.toList.zipIdx.all (λ q=>q.1.after.toList.all λ e=> !Region.binds .any e||decide (e.on<q.2))&&
  (List.range ops.size).all λ k=>(List.range k).all λ i=>((Region.before ops).getD k 0).testBit i||(match ops[i]?,ops[k]? with
   |some x,some y=>Zh2 ops x y (fs.getD i ([],[])) (fs.getD k ([],[]))
   |_,_=>false)))
end
section
variable {P:Program}{own:Nat->Bool}{B X:Nat->Prop}{w0:W0}{w:World}{n:Nat}{S:St}{a:Act}{ι:Nat->Option Nat}{ops:Array Oper}
def left (ops:Array Oper)(listed:Array Bool):List Nat:=(List.range ops.size).filter λ i=> !listed.getD i true
theorem Zo6 (listed:Array Bool):(left ops listed).Pairwise (·<·):=List.Pairwise.filter _ kX
theorem Zis {listed:Array Bool}{i:Nat}:i∈left ops listed↔i<ops.size/\listed.getD i true=false:=by
 simp[left]
theorem Zr2 (htb:w0.tabs=tabs P)(E:Nat->Eff){Sf:St}{Q:Exit->Act->World->Prop}(hpl:∀o∈ops.toList,Oper.plain n o=true)
  (hedge:∀k o,ops[k]? =some o->∀e∈o.after,Region.binds .any e=true->e.on<k)
  (hcomp:∀k i x y,i<k->ops[i]? =some x->ops[k]? =some y->((Region.before ops).getD k 0).testBit i=true\/Zh2 ops x y (E i).foot (E k).foot=true)
  (hQ:∀a' w' ι',Hold B X w0 n Sf a' w' ι'->Q .normal a' w'):
  ∀(fuel:Nat) (listed:Array Bool) (S:St) (a:Act) (w:World) (ι:Nat->Option Nat),listed.size=ops.size->(left ops listed).length<=fuel->
   (∀k o,listed.getD k true=true->ops[k]? =some o->∀e∈o.after,Region.binds .any e=true->listed.getD e.on false=true)->
   Zg1 P own ops E (left ops listed) S Sf->Hold B X w0 n S a w ι->wpAny P .any ops Q fuel listed a w:=by
 intro fuel;have getDs:∀(listed:Array Bool) (i:Nat),i<listed.size->listed.getD i true=listed.getD i false:=λ listed i hi=>by simp[Array.getD,hi]
 have ready_sub:∀(listed:Array Bool) (i:Nat),i∈Region.ready .any ops listed->i∈left ops listed/\∀o,ops[i]? =some o->∀e∈o.after,Region.binds .any e=true->listed.getD e.on false=true:=by
  intro listed i hi;simp only[Region.ready,Aa,yD,uO,yK]at hi;refine⟨Zis.2 ⟨hi.1,hi.2.1⟩,λ o ho e he hb=>?_⟩;have h:=hi.2.2;rw[ho]at h;simp only[yV,yQ,jH]at h;have:=h e he;rw[hb]at this;simpa using this
 induction fuel with
 |zero=>
  intro listed S a w ι hsz hl hcl hr hS;have h0:left ops listed=[]:=qF (by omega);rw[h0]at hr;cases hr;refine⟨?_,hQ _ _ _ hS⟩;rw[List.eq_nil_iff_forall_not_mem];intro i hi;have:=(ready_sub listed i hi).1;rw[h0]at this;cases this
 |succ fuel ih=>
  intro listed S a w ι hsz hl hcl hr hS;refine⟨λ hnil=>?_,λ i hi=>?_⟩
  ·cases hL:left ops listed with
   |nil=>rw[hL]at hr;cases hr;exact hQ _ _ _ hS
   |cons k rest=>
    exfalso;have hk:k∈left ops listed:=by rw[hL];simp
    obtain⟨hk1,hk2⟩:=Zis.1 hk;have:k∈Region.ready .any ops listed:=by
     simp only[Region.ready,Aa,yD,uO,yK];refine⟨hk1,hk2,?_⟩;rw[uT hk1];simp only[yV,yQ,jH];intro e he;cases hb:Region.binds .any e with
     |false=>rfl
     |true=>
      have hlt:=hedge k _ (uT hk1) e he hb;have hnm:e.on∉left ops listed:=by
       intro hm;rw[hL]at hm;rcases yH.1 hm with h|h
       ·omega
       ·have hs:=Zo6 (ops:=ops) listed;rw[hL]at hs;have:=(jG.1 hs).1 _ h;omega
      rw[Zis]at hnm;have h1:listed.getD e.on true=true:=by
       cases hq:listed.getD e.on true with
       |true=>rfl
       |false=>exact absurd ⟨by omega,hq⟩ hnm
      simpa[<-getDs listed e.on (by omega)]using h1
    rw[hnil]at this;cases this
  ·obtain⟨hmem,hpre⟩:=ready_sub listed i hi;obtain⟨hi1,hi2⟩:=Zis.1 hmem;have hio:ops[i]? =some ops[i]:=uT hi1;obtain⟨pre,post,hL⟩:=List.append_of_mem hmem;have hs:=Zo6 (ops:=ops) listed;rw[hL]at hs hr;have hs2:=yX.1 hs;have hlt:∀j∈pre,j<i:=λ j hj=>hs2.2.2 j hj i (by simp)
   have hgt:∀j∈post,i<j:=λ j hj=>(jG.1 hs2.2.1).1 j hj
   obtain⟨hd,hrest⟩:=Zll hio pre post S Sf hr (λ j hj oj hoj=>by
    rcases hcomp i j oj _ (hlt j hj) hoj hio with hb|hc
    ·exfalso;have:=Zsr ops (λ j=>listed.getD j false=true) (λ k o hk hko e he hb=>⟨hedge k o hko e he hb,hcl k o (by
       have hkk:k<listed.size:=by rw[hsz];exact(qX.1 hko).1
       rw[getDs listed k hkk];exact hk) hko e he hb⟩) i _ hio (λ e he hb=>⟨hedge i _ hio e he hb,hpre _ hio e he hb⟩) j hb
     have hjm:j∈left ops listed:=by rw[hL];simp[hj]
     obtain⟨hj1,hj2⟩:=Zis.1 hjm;rw[getDs listed j (by omega)]at hj2;rw[hj2]at this;cases this
    ·exact hc)
   have hleft:left ops (listed.setIfInBounds i true)=pre++post:=by
    have h1:left ops (listed.setIfInBounds i true)=(left ops listed).filter (λ j=>j != i):=by
     unfold left;rw[List.filter_filter];refine List.filter_congr (λ j hj=>?_);simp only[yD]at hj;simp only[qG,Ab,hsz];by_cases hji:i=j
     ·subst hji;simp[hi1]
     ·have hne:(j != i)=true:=by simpa[By]using Ne.symm hji
      simp[hji,hne]
    rw[h1,hL,gX,zB];simp only[bne_self_eq_false,qB,jE]
    congr 1
    ·refine Bt.2 (λ j hj=>?_);have:=hlt j hj;simp only[By,ne_eq];omega
    ·refine Bt.2 (λ j hj=>?_);have:=hgt j hj;simp only[By,ne_eq];omega
   refine Zn5 htb hS hio (hpl _ (by simp)) hd (λ a' w' ι' h'=>?_);refine ih (listed.setIfInBounds i true) _ a' w' ι' (by simpa using hsz) ?_ ?_ ?_ h'
   ·rw[hleft];have:(left ops listed).length=pre.length+(post.length+1):=by rw[hL];simp
    simp only[uC];omega
   ·intro k o hk ho e he hb;have key:listed.getD e.on false=true:=by
     by_cases hki:i=k
     ·subst hki;rw[hio]at ho;cases ho;exact hpre _ hio e he hb
     ·refine hcl k o ?_ ho e he hb;rw[qG,Ab,if_neg hki]at hk;rw[qG];exact hk
    rw[qG,Ab];split
    ·split<;>simp_all
    ·rw[qG]at key;exact key
   ·rw[hleft];exact hrest
theorem Zzl (htb:w0.tabs=tabs P)(E:Nat->Eff){Sf:St}{Q:Exit->Act->World->Prop}(hpl:∀o∈ops.toList,Oper.plain n o=true)(hQ:∀a' w' ι',Hold B X w0 n Sf a' w' ι'->Q .normal a' w'):
  ∀(l:List Nat) (S:St) (a:Act) (w:World) (ι:Nat->Option Nat),Zg1 P own ops E l S Sf->Hold B X w0 n S a w ι->wpOps P ops Q l a w:=by
 intro l
 induction l with
 |nil=>rintro S a w ι h hS;cases h;exact hQ _ _ _ hS
 |cons i l ih=>
  rintro S a w ι ⟨o,ho,hd,hr⟩ hS;rw[wpOps_cons];exact Zn5 htb hS ho (hpl o (by simpa using gQ ho)) hd (λ a' w' ι' h'=>ih _ a' w' ι' hr h')
theorem ZwW (htb:w0.tabs=tabs P)(ZcC:P.follows .mixedOrders=true){id:Nat}{draw:Bool}{K:St->List Za9->Prop}{Q:Exit->Act->World->Prop}(hS:Hold B X w0 n S a w ι)
  (hrun:Zab P own ops.toList ops.toList S [] K)(hK:∀Sf fs,K Sf fs->Zhx n ops draw fs.reverse=true/\∀a' w' ι',Hold B X w0 n Sf a' w' ι'->Q .normal a' w'):
  (Code.region id ops draw).wp P Q a w:=by
 obtain⟨Sf,fs,hr,hk⟩:=ZxH _ _ _ _ hrun;obtain⟨hok,hQ⟩:=hK _ _ hk;simp only[yO,List.reverse_reverse]at hok;obtain⟨es,hel,rfl,hri⟩:=ZxG _ _ _ _ hr;have hRI:=hri (λ i=>es.getD i default) 0 ops rfl (λ j o hj=>by simpa using hj) (λ j e hj=>by simp[List.getD,hj]);rw[<-List.range_eq_range']at hRI;simp only[Am]at hRI hel;simp only[Zhx,uO,uW]at hok;obtain⟨hpl,hdr⟩:=hok;cases draw with
 |false=>exact wp_region (Zzl htb _ hpl hQ _ S a w ι hRI hS)
 |true=>
  simp only[Bool.not_true,Bool.false_or,uO,uW,yD]at hdr;obtain⟨hedge,hcomp⟩:=hdr;have hleft0:left ops (Array.replicate ops.size false)=List.range ops.size:=by
   unfold left;refine Bt.2 (λ j hj=>?_);simp only[yD]at hj;simp[Array.getD,hj]
  have hS':=hS.ext (w':={w with drawn:=w.drawn+1}) ⟨rfl,rfl,rfl,uH _,λ _ _=>rfl⟩;refine wp_region_any ZcC (Zr2 (own:=own) htb (λ i=>es.getD i default) hpl ?_ ?_ hQ ops.size _ S a _ ι (by simp) (by rw[hleft0];simp) ?_ (by rw[hleft0];exact hRI) hS')
  ·intro k o ho e he hb;have:=hedge (o,k) (by
    rw[List.mem_zipIdx_iff_getElem?];simpa using ho) e (by simpa using he)
   rw[hb]at this;simpa using this
  ·intro k i x y hik hx hy;have hk:=(qX.1 hy).1;have:=hcomp k hk i hik;rw[hx,hy]at this;simp only[qY]at this;rcases this with h|h
   ·exact .inl h
   ·refine .inr ?_;have e1:∀j,j<ops.size->(es.map Eff.foot).getD j ([],[])=(es.getD j default).foot:=λ j hj=>by
     have:j<es.length:=by omega
     simp[List.getD,this]
    rw[e1 i (by omega),e1 k hk]at h;exact h
  ·intro k o hk ho;have hlt:=(qX.1 ho).1;simp[Array.getD,hlt]at hk
end
end Go.PS
