/- One operation of a region in the model; two operations that do not touch each other. -/
import Derived.Test.YtjjbhjnpeenbkaaGreatDoorPSRegion
set_option linter.unusedSimpArgs false
set_option linter.unusedVariables false
set_option maxHeartbeats 16000000
namespace Go.PS
open Go
section
variable {P:Program}{own:Nat->Bool}{objs objs':Nat->Ob}{B X:Nat->Prop}{w0:W0}{w:World}{n:Nat}{S:St}{a:Act}{ι:Nat->Option Nat}{ops:Array Oper}
theorem Zvj (hS:Hold B X w0 n S a w ι){Y:Nat->Prop}(hY:∀b,Y b->ownX ι X b):∀(k:Nat) (p:PV) (v:Value) (d:D),toD S.objs k p=some d->(∀o∈p.refs S.objs k,S.objs o≠ .gone->∀b,ι o=some b->¬Y b)->PV.At w ι X p v->D.At w Y d v:=by
 intro k
 induction k with
 |zero=>intro p v d h;simp[toD]at h
 |succ k ih=>
  intro p v d h href hp;have list:∀(cs:List PV) (ds:List D),cs.mapM (toD S.objs k)=some ds->ds.length=cs.length/\∀(j:Nat) d,ds[j]? =some d->∃p,cs[j]? =some p/\toD S.objs k p=some d:=by
   intro cs
   induction cs with
   |nil=>intro ds hm;simp at hm;subst hm;simp
   |cons c cs ihc=>
    intro ds hm;simp only[jU]at hm;cases hc:toD S.objs k c with
    |none=>rw[hc]at hm;cases hm
    |some e=>
     rw[hc]at hm;cases hm2:cs.mapM (toD S.objs k)with
     |none=>rw[hm2]at hm;cases hm
     |some es=>
      rw[hm2]at hm;cases hm;obtain⟨g1,g2⟩:=ihc es hm2;refine⟨by simp[g1],λ j d hj=>?_⟩;cases j with
      |zero=>simp at hj;subst hj;exact⟨c,rfl,hc⟩
      |succ j=>obtain⟨p,hp,hq⟩:=g2 j d (by simpa using hj);exact⟨p,by simpa using hp,hq⟩
  cases p with
  |d x=>simp[toD]at h;subst h;cases hp with|d _ _ hp=>exact hp.sub hY
  |nilS=>simp[toD]at h;subst h;cases hp;exact .slnil none 0
  |z0=>simp[toD]at h;subst h;cases hp;exact .slnil _ 0
  |unk=>simp[toD]at h
  |und=>simp[toD]at h
  |ab=>simp[toD]at h
  |mp _=>simp[toD]at h
  |ifp _ _=>simp[toD]at h
  |ref o sz off len cap=>
   simp only[toD]at h;have hoo:=hS.objs o;have hnY:S.objs o≠ .gone->∀b,ι o=some b->¬Y b:=href o (by simp only[PV.refs];split<;>simp);cases hob:S.objs o with
   |dead=>rw[hob]at h;cases h
   |gone=>rw[hob]at h;cases h
   |imap _=>rw[hob]at h;cases h
   |iter _ _ _=>rw[hob]at h;cases h
   |cells cs=>
    rw[hob]at h hoo hnY
    replace hnY:=hnY (by simp)
    simp only[PV.refs,hob]at href;simp only at h;split at h
    ·rename_i hcond;obtain⟨rfl,hle⟩:=hcond;cases hmm:((cs.drop off).take len).mapM (toD S.objs k)with
     |none=>rw[hmm]at h;cases h
     |some ds=>
      rw[hmm]at h;cases h;obtain⟨g1,g2⟩:=list _ ds hmm;have hlen:ds.length=len:=by rw[g1];simp;omega
      cases hp with
      |ref0=>rw[qI hlen];exact .slnil _ _
      |ref _ _ _ _ _ capr b hι hl hc hm hs=>
       cases hoo with
       |cells _ b' c T hι' hb hsz hone hat=>
        rw[hι]at hι';cases hι';have key:∀(i:Nat) e,ds[i]? =some e->∃v,c[off+i]? =some v/\c.getD (off+i) undef=v/\D.At w Y e v/\e.cells=[e]:=by
         intro i e hi;obtain⟨p,hp,hq⟩:=g2 i e hi;have hil:i<len:=by rw[<-hlen];exact(uB.1 hi).1
         rw[qH,if_pos hil,gA]at hp;have hlt:off+i<c.size:=by omega
         have hpm:p∈(cs.drop off).take len:=uA (by rw[qH,if_pos hil,gA];exact hp);have hat':=ih p _ e hq (λ o ho=>href o (uO _ (kU.2 ⟨p,hpm,ho⟩))) (hat (off+i) p _ hp (uU hlt));exact⟨_,uU hlt,by simp[Array.getD,hlt],hat',hat'.single (hone _ _ (uU hlt))⟩
        have:=D.At.sl (w:=w) (X:=Y) ds b (off*1) capr 1 (by omega) hm (λ d hd=>by
          obtain⟨i,hi⟩:=yU hd;obtain⟨v,h1,h2,h3,h4⟩:=key i d hi;rw[h4];rfl) (λ i j=>c.getD (off+i+j) undef)
         (λ i d j e hi hj=>by
          obtain⟨v,h1,h2,h3,h4⟩:=key i d hi;rw[h4]at hj;have hj0:j=0:=by have:=(uB.1 hj).1;simp at this;exact this
          subst hj0;simp only[gX,jS,h2];exact⟨by rw[Zdg hb];exact h1,hone _ v h1,λ h=>hnY b hι h⟩)
         (λ i d j e hi hj=>by
          obtain⟨v,h1,h2,h3,h4⟩:=key i d hi;rw[h4]at hj;have hj0:j=0:=by have:=(uB.1 hj).1;simp at this;exact this
          subst hj0;cases hj;simp only[gX,h2];exact h3)
        rw[hlen]at this;exact this
    ·cases h
   |row sz' l=>
    rw[hob]at h hoo hnY
    replace hnY:=hnY (by simp)
    simp only[PV.refs,hob]at href;simp only at h;split at h
    ·rename_i hcond;obtain⟨rfl,hle⟩:=hcond;cases h;have hlen:((l.drop off).take len).length=len:=by simp;omega
     cases hp with
     |ref0=>simp only[yX];exact .slnil _ _
     |ref _ _ _ _ _ capr b hι hl hc hm hs=>
      cases hoo with
      |row0 _ h=>rw[h]at hι;cases hι
      |row _ _ b' c T hι' hb hsz hcl hone h=>
       rw[hι]at hι';cases hι';have key:∀(i:Nat) d (j:Nat) e,((l.drop off).take len)[i]? =some d->d.cells[j]? =some e->∃v,c[off*sz+i*sz+j]? =some v/\c.getD (off*sz+i*sz+j) undef=v/\D.At w (ownX ι X) e v:=by
        intro i d j e hi hj;rw[qH]at hi;split at hi
        ·rename_i hil;rw[gA]at hi;have hjs:j<sz:=by rw[<-hcl d (uA hi)];exact(uB.1 hj).1
         have hlt:(off+i)*sz+j<c.size:=by
          have:(off+i+1)*sz<=l.length*sz:=yO _ (by omega);rw[qJ]at this;omega
         have heq:off*sz+i*sz+j=(off+i)*sz+j:=by rw[qJ]
         rw[heq];have hg:c[(off+i)*sz+j]? =some c[(off+i)*sz+j]:=uU hlt;exact⟨_,hg,by simp[Array.getD,hlt],h (off+i) d j e _ hi hj hg⟩
        ·cases hi
       have:=D.At.sl (w:=w) (X:=Y) ((l.drop off).take len) b (off*sz) capr sz (by rw[hlen];exact hl) hm (λ d hd=>hcl d (kY (gT hd)))
        (λ i j=>c.getD (off*sz+i*sz+j) undef) (λ i d j e hi hj=>by
         obtain⟨v,h1,h2,h3⟩:=key i d j e hi hj;simp only[h2];exact⟨by rw[Zdg hb];exact h1,hone _ v h1,λ h=>hnY b hι h⟩) (λ i d j e hi hj=>by
         obtain⟨v,h1,h2,h3⟩:=key i d j e hi hj;simp only[h2];exact h3.sub hY)
       rw[hlen]at this;exact this
    ·cases h
  |ptr o sz i c=>
   simp only[toD]at h;have hoo:=hS.objs o;have hnY:S.objs o≠ .gone->∀b,ι o=some b->¬Y b:=href o (by simp only[PV.refs];split<;>simp);cases hob:S.objs o with
   |dead=>rw[hob]at h;cases h
   |gone=>rw[hob]at h;cases h
   |row _ _=>rw[hob]at h;cases h
   |imap _=>rw[hob]at h;cases h
   |iter _ _ _=>rw[hob]at h;cases h
   |cells cs=>
    rw[hob]at h hoo hnY
    replace hnY:=hnY (by simp)
    simp only[PV.refs,hob]at href;simp only at h;split at h
    ·rename_i hcond;obtain⟨rfl,rfl⟩:=hcond;cases hm:cs.mapM (toD S.objs k)with
     |none=>rw[hm]at h;cases h
     |some ds=>
      rw[hm]at h;cases h;obtain⟨g1,g2⟩:=list cs ds hm;cases hp with
      |ptr _ _ _ _ b hι=>
       cases hoo with
       |cells _ b' c T hι' hb hsz hone h=>
        rw[hι]at hι';cases hι';have key:∀(j:Nat) e,ds[j]? =some e->∃v,c[j]? =some v/\c.getD j undef=v/\D.At w Y e v:=by
         intro j e hj;obtain⟨p,hp,hq⟩:=g2 j e hj;have hlt:j<c.size:=by have:=(uB.1 hj).1;omega
         exact⟨_,uU hlt,by simp[Array.getD,hlt],ih p _ e hq (λ o ho=>href o (uO _ (kU.2 ⟨p,uA hp,ho⟩))) (h j p _ hp (uU hlt))⟩
        refine .pt ds b _ (λ j=>c.getD j undef) (λ j e hj=>?_) (λ j e hj=>?_)
        ·obtain⟨v,h1,h2,h3⟩:=key j e hj;simp only[h2];exact⟨by rw[Zdg hb];simpa using h1,hone _ v h1,λ h=>hnY b hι h⟩
        ·obtain⟨v,h1,h2,h3⟩:=key j e hj;simp only[h2];exact h3
    ·cases h
  |ag cs=>
   simp only[toD]at h;cases hm:cs.mapM (toD S.objs k)with
   |none=>rw[hm]at h;cases h
   |some ds=>
    rw[hm]at h;cases h;obtain⟨g1,g2⟩:=list cs ds hm;cases hp with
    |ag _ arr hsz hone hat=>exact .ag ds arr (by omega) hone λ j d v hj hv=>by
                                 obtain⟨p,hp,hq⟩:=g2 j d hj;exact ih p v d hq (λ o ho=>href o (by simp only[PV.refs];exact kU.2 ⟨p,uA hp,ho⟩)) (hat j p v hp hv)
  |tup cs=>
   simp only[toD]at h;cases hm:cs.mapM (toD S.objs k)with
   |none=>rw[hm]at h;cases h
   |some ds=>
    rw[hm]at h;cases h;obtain⟨g1,g2⟩:=list cs ds hm;cases hp with
    |tup _ arr hsz hat=>exact .tup ds arr (by omega) λ j d v hj hv=>by
                             obtain⟨p,hp,hq⟩:=g2 j d hj;exact ih p v d hq (λ o ho=>href o (by simp only[PV.refs];exact kU.2 ⟨p,uA hp,ho⟩)) (hat j p v hp hv)
  |fn f cs=>
   simp only[toD]at h;cases hm:cs.mapM (toD S.objs k)with
   |none=>rw[hm]at h;cases h
   |some ds=>
    rw[hm]at h;cases h;obtain⟨g1,g2⟩:=list cs ds hm;cases hp with
    |fn _ _ arr hsz hat=>exact .fn f ds arr (by omega) λ j d v hj hv=>by
                              obtain⟨p,hp,hq⟩:=g2 j d hj;exact ih p v d hq (λ o ho=>href o (by simp only[PV.refs];exact kU.2 ⟨p,uA hp,ho⟩)) (hat j p v hp hv)
theorem Zpk (hS:Hold B X w0 n S a w ι){Y:Nat->Prop}(hY:∀b,Y b->X b)(k:Nat)(p:PV)(v:Value)(d:D)(h:toD S.objs k p=some d)(hp:PV.At w ι X p v):D.At w Y d v:=
 Zvj hS (λ b h=> .inl (hY b h)) k p v d h (λ o _ _ b hb hYb=>(hS.free o b hb).1 (hS.hXB.1 b (hY b hYb))) hp
theorem Zg1 {Y Z:Nat->Prop}:∀(k:Nat) (d:D) (v:Value),d.flat k=true->D.At w Y d v->D.At w Z d v:=by
 intro k
 induction k with
 |zero=>intro d v h;simp[D.flat]at h
 |succ k ih=>
  intro d v h hd;cases hd with
  |sc v h1=>exact .sc v h1
  |ag cs arr hsz hone hat=>
   simp only[D.flat,uX]at h;exact .ag cs arr hsz hone λ j d v hj hv=>ih d v (h d (uA hj)) (hat j d v hj hv)
  |slnil base cap=>exact .slnil base cap
  |sl l b off cap sz hl hc hsz vals hv hat=>
   simp only[D.flat,Ah]at h;subst h;exact .slnil _ _
  |tup cs arr hsz hat=>
   simp only[D.flat,uX]at h;exact .tup cs arr hsz λ j d v hj hv=>ih d v (h d (uA hj)) (hat j d v hj hv)
  |pt=>simp[D.flat]at h
  |fn=>simp[D.flat]at h
theorem Zm9 {g:FuncId}(hc:Zjz P g)(args:Array Value):(callFunc g args).run P w= .ok (.enter g args) w:=by
 obtain⟨fn,h1,h2,h3⟩:=hc;simp only[callFunc,Sem.run_bind,run_program,Result.andThen_ok,h1,h3,qD,jA,h2,Sem.run_pure]
theorem Zxb (htb:w0.tabs=tabs P)(hS:Hold B X w0 n S a w ι){dst:Option Nat}{f:Operand}{as:Array Operand}{tys:Array TypeId}{ty:TypeId}{pos:String}{af:Array Edge}{gd:Option (Nat×Bool)}
  (hd:∀t,dst=some t->t<n)(hf:ZaD f=true)(hx:∀x∈as.toList,ZaD x=true){r:D}(hc:Zjy P S.objs (S.ev f) (as.toList.map S.ev) r)
  {next:Act->World->Prop}{Q:Exit->Act->World->Prop}(hk:∀a' w' ι',Hold B X w0 n (S.put dst (.d r)) a' w' ι'->next a' w'):
  (Oper.mk dst (.call ⟨.value f,as,tys⟩) ty pos af gd).wp P a w next Q:=by
 obtain⟨g,caps,args,hfv,hargs,hcall,hflat⟩:=hc;have hpf:=hS.ev hf;rw[hfv]at hpf;obtain⟨hcb,hcalls⟩:=hcall;have hfn:∃carr:Array Value,a.eval f= .func (.func g) #[] carr/\carr.size=caps.length/\∀(j:Nat) d v,caps[j]? =some d->carr[j]? =some v->D.At w (ownX ι X) d v:=by
  generalize a.eval f=fv at hpf;cases hpf with
  |d _ _ h=>cases h with|fn _ _ arr hsz h=>exact⟨arr,rfl,hsz,h⟩
 obtain⟨carr,hfe,hcs,hcat⟩:=hfn;have hlen:args.length=as.toList.length/\∀(j:Nat) d,args[j]? =some d->∃x,as.toList[j]? =some x/\toD S.objs 4 (S.ev x)=some d:=by
  have:∀(xs:List Operand) (ds:List D),(xs.map S.ev).mapM (toD S.objs 4)=some ds->ds.length=xs.length/\∀(j:Nat) d,ds[j]? =some d->∃x,xs[j]? =some x/\toD S.objs 4 (S.ev x)=some d:=by
   intro xs
   induction xs with
   |nil=>intro ds h;simp at h;subst h;simp
   |cons x xs ih=>
    intro ds h;simp only[uT,jU]at h;cases h1:toD S.objs 4 (S.ev x)with
    |none=>rw[h1]at h;cases h
    |some d=>
     rw[h1]at h;cases h2:(xs.map S.ev).mapM (toD S.objs 4)with
     |none=>rw[h2]at h;cases h
     |some es=>
      rw[h2]at h;cases h;obtain⟨g1,g2⟩:=ih es h2;refine⟨by simp[g1],λ j e hj=>?_⟩;cases j with
      |zero=>simp at hj;subst hj;exact⟨x,rfl,h1⟩
      |succ j=>obtain⟨y,hy,hq⟩:=g2 j e (by simpa using hj);exact⟨y,by simpa using hy,hq⟩
  exact this as.toList args hargs
 have hvals:∀(Y:Nat->Prop),(∀(j:Nat) d x,args[j]? =some d->as.toList[j]? =some x->toD S.objs 4 (S.ev x)=some d->D.At w Y d (a.eval x))->(∀b,Y b->ownX ι X b)->ZhH w Y (args++caps) (as.map a.eval++carr):=by
  intro Y h1 hY;refine⟨by simp[hlen.1,hcs],λ j d v hj hv=>?_⟩;rw[jB]at hj;rw[gM]at hv;simp only[Array.size_map]at hv;have hl1:args.length=as.size:=by simpa using hlen.1
  rw[hl1]at hj;split at hj
  ·rename_i hlt;rw[if_pos hlt]at hv;obtain⟨x,hx1,hx2⟩:=hlen.2 j d hj;rw[kS]at hv;have hax:as[j]? =some x:=by simpa using hx1
   rw[hax]at hv;cases hv;exact h1 j d x hj hx1 hx2
  ·rename_i hlt;rw[if_neg hlt]at hv;exact(hcat _ d v hj hv).sub hY
 have hexec:(execOp a.eval (Oper.mk dst (.call ⟨.value f,as,tys⟩) ty pos af gd)).run P w= .ok (.enter g (as.map a.eval++carr)) w:=by
  simp only[execOp,resolve,hfe,Deferred.ofValue,Sem.run_bind,Sem.run_pure,Result.andThen_ok,invoke,Cv,Zm9 hcb]
 unfold Oper.wp;rw[hexec,Oper.upon_enter];have fin:∀v w',D.At w' (ownX ι X) r v->RowKit.Below w.heap.size w w'->next (a.put dst v) w':=λ v w' hr hb=>hk _ _ _ ((hS.ext hb).put hd (.d _ _ hr))
 rcases hflat with hnil|hfl
 ·refine Calls.mono (hcalls w (ownX ι X) _ (λ b hb=>hS.ownlt hb) (hvals _ (λ j d x hj hxj hxd=>?_) (λ _ h=>h)) ?_) ?_
  ·refine Zpj 4 (S.ev x) _ d hxd ?_ (hS.ev (hx x (uA hxj)));rw[Bu]at hnil;exact hnil _ (jR (uA hxj))
  ·exact htb▸hS.tabs
  ·rintro e w' ⟨v,rfl,hr,hb⟩;exact fin v w' hr hb
 ·refine Calls.mono (hcalls w (λ _=>False) _ (λ b hb=>hb.elim) (hvals _ (λ j d x hj hxj hxd=>?_) (λ _ h=>h.elim)) ?_) ?_
  ·exact Zpk hS (λ _ h=>h.elim) 4 (S.ev x) _ d hxd (hS.ev (hx x (uA hxj)))
  ·exact(htb▸hS.tabs:Zer (tabs P) w (ownX ι X)).sub λ _ h=>h.elim
  ·rintro e w' ⟨v,rfl,hr,hb⟩;exact fin v w' (Zg1 4 r v hfl hr) hb
theorem ZoO {ι ιc:Nat->Option Nat}{X Xc:Nat->Prop}{g:Nat->Nat}{L:List Nat}(hι:∀i∈L,ιc i=ι (g i))(hX:∀b,ownX ιc Xc b->ownX ι X b):
  ∀(k:Nat) (p:PV) (v:Value),p.only L k=true->PV.At w ι X (p.ren g) v->PV.At w ιc Xc p v:=by
 intro k
 induction k with
 |zero=>intro p v h;simp[PV.only]at h
 |succ k ih=>
  intro p v h hp;have list:∀(cs:List PV) (arr:Array Value),cs.all (PV.only L k)=true->(∀(j:Nat) p v,(cs.map (PV.ren g))[j]? =some p->arr[j]? =some v->PV.At w ι X p v)->
    ∀(j:Nat) p v,cs[j]? =some p->arr[j]? =some v->PV.At w ιc Xc p v:=by
   intro cs arr hc hat j p v hj hv;simp only[uX]at hc;exact ih p v (hc p (uA hj)) (hat j _ v (by rw[uI,hj];rfl) hv)
  cases p with
  |d x=>simp only[PV.ren,PV.renL_eq]at hp;cases hp with|d _ _ h=>exact .d _ _ (h.sub hX)
  |ref o sz off len cap=>
   simp only[PV.ren,PV.renL_eq]at hp;simp only[PV.only,yQ,uF]at h;cases hp with
   |ref _ _ _ _ _ capr b hb hl hc hm hs=>exact .ref o sz off len cap capr b ((hι o h).trans hb) hl hc hm hs
   |ref0 _ _ _ base=>exact .ref0 _ _ _ base
  |ptr o sz i c=>
   simp only[PV.ren,PV.renL_eq]at hp;simp only[PV.only,yQ,uF]at h;cases hp with|ptr _ _ _ _ b hb=>exact .ptr o sz i c b ((hι o h).trans hb)
  |nilS=>simp only[PV.ren,PV.renL_eq]at hp;cases hp;exact .nilS
  |z0=>simp only[PV.ren,PV.renL_eq]at hp;cases hp;exact .z0 _
  |unk=>exact .unk _
  |und=>simp only[PV.ren,PV.renL_eq]at hp;cases hp;exact .und
  |ab=>simp only[PV.ren,PV.renL_eq]at hp;cases hp;exact .ab _
  |mp o=>
   simp only[PV.ren,PV.renL_eq]at hp;simp only[PV.only,yQ,uF]at h;cases hp with|mp _ b hb=>exact .mp o b ((hι o h).trans hb)
  |ifp T o=>
   simp only[PV.ren,PV.renL_eq]at hp;simp only[PV.only,yQ,uF]at h;cases hp with|ifp _ _ b hb=>exact .ifp T o b ((hι o h).trans hb)
  |ag cs=>
   simp only[PV.ren,PV.renL_eq]at hp;cases hp with|ag _ arr hsz hone hat=>exact .ag cs arr (by simpa using hsz) hone (list cs arr h hat)
  |tup cs=>
   simp only[PV.ren,PV.renL_eq]at hp;cases hp with|tup _ arr hsz hat=>exact .tup cs arr (by simpa using hsz) (list cs arr h hat)
  |fn f cs=>
   simp only[PV.ren,PV.renL_eq]at hp;cases hp with|fn _ _ arr hsz hat=>exact .fn f cs arr (by simpa using hsz) (list cs arr h hat)
theorem Zub {ι ιc:Nat->Option Nat}{X Xc:Nat->Prop}{g:Nat->Nat}{L:List Nat}(hι:∀i∈L,ι (g i)=ιc i)(hX:∀b,ownX ι X b->ownX ιc Xc b):
  ∀(k:Nat) (p:PV) (v:Value),p.only L k=true->PV.At w ιc Xc p v->PV.At w ι X (p.ren g) v:=by
 intro k
 induction k with
 |zero=>intro p v h;simp[PV.only]at h
 |succ k ih=>
  intro p v h hp;have list:∀(cs:List PV) (arr:Array Value),cs.all (PV.only L k)=true->(∀(j:Nat) p v,cs[j]? =some p->arr[j]? =some v->PV.At w ιc Xc p v)->
    ∀(j:Nat) p v,(cs.map (PV.ren g))[j]? =some p->arr[j]? =some v->PV.At w ι X p v:=by
   intro cs arr hc hat j p v hj hv;simp only[uX]at hc;rw[uI]at hj;cases hq:cs[j]? with
   |none=>rw[hq]at hj;cases hj
   |some q=>rw[hq]at hj;cases hj;exact ih q v (hc q (uA hq)) (hat j q v hq hv)
  cases hp with
  |d x v h=>simp only[PV.ren,PV.renL_eq];exact .d _ _ (h.sub hX)
  |ref o sz off len cap capr b hb hl hc hm hs=>
   simp only[PV.only,yQ,uF]at h;simp only[PV.ren,PV.renL_eq];exact .ref _ sz off len cap capr b ((hι o h).trans hb) hl hc hm hs
  |ref0 o sz off base=>simp only[PV.ren,PV.renL_eq];exact .ref0 _ _ _ base
  |ptr o sz i c b hb=>
   simp only[PV.only,yQ,uF]at h;simp only[PV.ren,PV.renL_eq];exact .ptr _ sz i c b ((hι o h).trans hb)
  |nilS=>simp only[PV.ren,PV.renL_eq];exact .nilS
  |z0 base=>simp only[PV.ren,PV.renL_eq];exact .z0 _
  |unk v=>simp only[PV.ren,PV.renL_eq];exact .unk _
  |und=>simp only[PV.ren,PV.renL_eq];exact .und
  |ab b=>simp only[PV.ren,PV.renL_eq];exact .ab b
  |mp o b hb=>
   simp only[PV.only,yQ,uF]at h;simp only[PV.ren,PV.renL_eq];exact .mp _ b ((hι o h).trans hb)
  |ifp T o b hb=>
   simp only[PV.only,yQ,uF]at h;simp only[PV.ren,PV.renL_eq];exact .ifp T _ b ((hι o h).trans hb)
  |ag cs arr hsz hone hat=>simp only[PV.ren,PV.renL_eq];exact .ag _ arr (by simpa using hsz) hone (list cs arr h hat)
  |tup cs arr hsz hat=>simp only[PV.ren,PV.renL_eq];exact .tup _ arr (by simpa using hsz) (list cs arr h hat)
  |fn f cs arr hsz hat=>simp only[PV.ren,PV.renL_eq];exact .fn f _ arr (by simpa using hsz) (list cs arr h hat)
theorem Zt9 {ι ιc:Nat->Option Nat}{X Xc:Nat->Prop}{g:Nat->Nat}{L:List Nat}(hι:∀i∈L,ιc i=ι (g i))(hX:∀b,ownX ιc Xc b->ownX ι X b){i:Nat}{ob:Ob}
  (hi:i∈L)(hon:ob.only L=true)(ho:Ob.At w ι X (g i) (ob.ren g)):Ob.At w ιc Xc i ob:=by
 cases ob with
 |gone=>exact .gone
 |dead=>simp only[Ob.ren]at ho;cases ho with|dead h=>exact .dead ((hι i hi).trans h)
 |cells cs=>
  simp only[Ob.ren]at ho;simp only[Ob.only,uX]at hon;cases ho with
  |cells _ b c T hb hbb hsz hone hat=>
   exact .cells cs b c T ((hι i hi).trans hb) hbb (by simpa using hsz) hone λ j p v hj hv=>ZoO hι hX 4 p v (hon p (uA hj)) (hat j _ v (by rw[uI,hj];rfl) hv)
 |row sz l=>
  simp only[Ob.ren]at ho;cases ho with
  |row0 _ h=>exact .row0 sz ((hι i hi).trans h)
  |row _ _ b c T hb hbb hsz hcl hone hat=>exact .row sz l b c T ((hι i hi).trans hb) hbb hsz hcl hone λ i d j e v hi hj hv=>(hat i d j e v hi hj hv).sub hX
 |imap l=>
  simp only[Ob.ren]at ho;cases ho with
  |imap _ b es clock hb hbb he=>exact .imap l b es clock ((hι i hi).trans hb) hbb he
 |iter m k sn=>
  simp only[Ob.ren]at ho;simp only[Ob.only,yQ,uF]at hon;cases ho with
  |iter _ _ _ b bm hb hm hbb=>exact .iter m k sn b bm ((hι i hi).trans hb) ((hι m hon).trans hm) hbb
theorem ZCF {ι ιc:Nat->Option Nat}{X Xc:Nat->Prop}{g:Nat->Nat}{L:List Nat}(hι:∀i∈L,ι (g i)=ιc i)(hX:∀b,ownX ι X b->ownX ιc Xc b){i:Nat}{ob:Ob}
  (hi:i∈L)(hon:ob.only L=true)(ho:Ob.At w ιc Xc i ob):Ob.At w ι X (g i) (ob.ren g):=by
 cases ho with
 |gone=>simp only[Ob.ren];exact .gone
 |dead h=>simp only[Ob.ren];exact .dead ((hι i hi).trans h)
 |cells cs b c T hb hbb hsz hone hat=>
  simp only[Ob.only,uX]at hon;simp only[Ob.ren];refine .cells _ b c T ((hι i hi).trans hb) hbb (by simpa using hsz) hone λ j p v hj hv=>?_
  rw[uI]at hj;cases hq:cs[j]? with
  |none=>rw[hq]at hj;cases hj
  |some q=>rw[hq]at hj;cases hj;exact Zub hι hX 4 q v (hon q (uA hq)) (hat j q v hq hv)
 |row0 sz h=>simp only[Ob.ren];exact .row0 sz ((hι i hi).trans h)
 |row sz l b c T hb hbb hsz hcl hone hat=>simp only[Ob.ren];exact .row sz l b c T ((hι i hi).trans hb) hbb hsz hcl hone λ i d j e v hi hj hv=>(hat i d j e v hi hj hv).sub hX
 |imap l b es clock hb hbb he=>simp only[Ob.ren];exact .imap l b es clock ((hι i hi).trans hb) hbb he
 |iter m k sn b bm hb hm hbb=>
  simp only[Ob.only,yQ,uF]at hon;simp only[Ob.ren];exact .iter _ k sn b bm ((hι i hi).trans hb) ((hι m hon).trans hm) hbb
theorem Zig :∀(M:List (Nat×Ob)),(M.map (·.1)).Nodup->∀q∈M,Zap M q.1=q.2:=by
 intro M
 induction M with
 |nil=>intro _ q h;cases h
 |cons p M ih=>
  intro hn q hq;simp only[uT,yW]at hn;rcases yF.1 hq with rfl|hq
  ·exact if_pos rfl
  ·have hne:q.1≠p.1:=λ he=>hn.1 (by rw[<-he];exact jR hq)
   show upd p.1 p.2 (Zap M) q.1=_;rw[upd,if_neg hne];exact ih hn.2 q hq
theorem Zi8 :∀(M:List (Nat×Ob)) (o:Nat),o∉M.map (·.1)->Zap M o= .dead:=by
 intro M
 induction M with
 |nil=>intro o _;rfl
 |cons p M ih=>
  intro o hn;simp only[uT,yF,not_or]at hn;show upd p.1 p.2 (Zap M) o=_;rw[upd,if_neg hn.1];exact ih o hn.2
theorem ZFM :∀(M:List (Nat×Ob)) (objs:Nat->Ob),(M.map (·.1)).Nodup->∀q∈M,wrs M objs q.1=q.2:=by
 intro M
 induction M with
 |nil=>intro _ _ q h;cases h
 |cons p M ih=>
  intro objs hn q hq;simp only[uT,yW]at hn;rcases yF.1 hq with rfl|hq
  ·exact if_pos rfl
  ·have hne:q.1≠p.1:=λ he=>hn.1 (by rw[<-he];exact jR hq)
   show upd p.1 p.2 (wrs M objs) q.1=_;rw[upd,if_neg hne];exact ih objs hn.2 q hq
theorem ZkL :∀(M:List (Nat×Ob)) (objs:Nat->Ob) (o:Nat),o∉M.map (·.1)->wrs M objs o=objs o:=by
 intro M
 induction M with
 |nil=>intro objs o _;rfl
 |cons p M ih=>
  intro objs o hn;simp only[uT,yF,not_or]at hn;show upd p.1 p.2 (wrs M objs) o=_;rw[upd,if_neg hn.1];exact ih objs o hn.2
theorem Zwx {objs:Nat->Ob}{g:Nat->Nat}{fl:Prop}:∀(xs ps:List PV),Zfl objs g fl xs ps->xs.length=ps.length/\∀(j:Nat) p,ps[j]? =some p->∃x,xs[j]? =some x/\(x=p.ren g\/∃d,p= .d d/\toD objs 4 x=some d/\(x.refs objs 4=[]\/fl)):=by
 intro xs
 induction xs with
 |nil=>
  intro ps h;cases ps with
  |nil=>exact⟨rfl,by simp⟩
  |cons=>exact h.elim
 |cons x xs ih=>
  intro ps h;cases ps with
  |nil=>exact h.elim
  |cons p ps=>
   obtain⟨h1,h2⟩:=h;obtain⟨g1,g2⟩:=ih ps h2;refine⟨by simp[g1],λ j q hj=>?_⟩;cases j with
   |zero=>simp at hj;subst hj;exact⟨x,rfl,h1⟩
   |succ j=>obtain⟨y,hy,hq⟩:=g2 j q (by simpa using hj);exact⟨y,by simpa using hy,hq⟩
theorem Zuc {ι ιc:Nat->Option Nat}{X Xc:Nat->Prop}{g:Nat->Nat}{L:List Nat}(hι:∀i∈L,ι (g i)=ιc i):
  ∀(k:Nat) (p:PV) (v:Value),p.only L k=true->p.flatP k=true->PV.At w ιc Xc p v->PV.At w ι X (p.ren g) v:=by
 intro k
 induction k with
 |zero=>intro p v h;simp[PV.only]at h
 |succ k ih=>
  intro p v h hf hp;have list:∀(cs:List PV) (arr:Array Value),cs.all (PV.only L k)=true->cs.all (PV.flatP k)=true->(∀(j:Nat) p v,cs[j]? =some p->arr[j]? =some v->PV.At w ιc Xc p v)->
    ∀(j:Nat) p v,(cs.map (PV.ren g))[j]? =some p->arr[j]? =some v->PV.At w ι X p v:=by
   intro cs arr hc hcf hat j p v hj hv;simp only[uX]at hc hcf;rw[uI]at hj;cases hq:cs[j]? with
   |none=>rw[hq]at hj;cases hj
   |some q=>rw[hq]at hj;cases hj;exact ih q v (hc q (uA hq)) (hcf q (uA hq)) (hat j q v hq hv)
  cases hp with
  |d x v h=>simp only[PV.ren];exact .d _ _ (Zg1 4 x v (by simpa[PV.flatP]using hf) h)
  |ref o sz off len cap capr b hb hl hc hm hs=>
   simp only[PV.only,yQ,uF]at h;simp only[PV.ren];exact .ref _ sz off len cap capr b ((hι o h).trans hb) hl hc hm hs
  |ref0 o sz off base=>simp only[PV.ren];exact .ref0 _ _ _ base
  |ptr o sz i c b hb=>
   simp only[PV.only,yQ,uF]at h;simp only[PV.ren];exact .ptr _ sz i c b ((hι o h).trans hb)
  |nilS=>simp only[PV.ren];exact .nilS
  |z0 base=>simp only[PV.ren];exact .z0 _
  |unk v=>simp only[PV.ren];exact .unk _
  |und=>simp only[PV.ren];exact .und
  |ab b=>simp only[PV.ren];exact .ab b
  |mp o b hb=>
   simp only[PV.only,yQ,uF]at h;simp only[PV.ren];exact .mp _ b ((hι o h).trans hb)
  |ifp T o b hb=>
   simp only[PV.only,yQ,uF]at h;simp only[PV.ren];exact .ifp T _ b ((hι o h).trans hb)
  |ag cs arr hsz hone hat=>simp only[PV.ren,PV.renL_eq];exact .ag _ arr (by simpa using hsz) hone (list cs arr h hf hat)
  |tup cs arr hsz hat=>simp only[PV.ren,PV.renL_eq];exact .tup _ arr (by simpa using hsz) (list cs arr h hf hat)
  |fn f cs arr hsz hat=>simp only[PV.ren,PV.renL_eq];exact .fn f _ arr (by simpa using hsz) (list cs arr h hf hat)
theorem ZCG {ι ιc:Nat->Option Nat}{X Xc:Nat->Prop}{g:Nat->Nat}{L:List Nat}(hι:∀i∈L,ι (g i)=ιc i){i:Nat}{ob:Ob}
  (hi:i∈L)(hon:ob.only L=true)(hf:ob.flatP)(ho:Ob.At w ιc Xc i ob):Ob.At w ι X (g i) (ob.ren g):=by
 cases ho with
 |gone=>simp only[Ob.ren];exact .gone
 |dead h=>simp only[Ob.ren];exact .dead ((hι i hi).trans h)
 |cells cs b c T hb hbb hsz hone hat=>
  simp only[Ob.only,uX]at hon;simp only[Ob.flatP,uX]at hf;simp only[Ob.ren];refine .cells _ b c T ((hι i hi).trans hb) hbb (by simpa using hsz) hone λ j p v hj hv=>?_
  rw[uI]at hj;cases hq:cs[j]? with
  |none=>rw[hq]at hj;cases hj
  |some q=>rw[hq]at hj;cases hj;exact Zuc hι 4 q v (hon q (uA hq)) (hf q (uA hq)) (hat j q v hq hv)
 |row0 sz h=>simp only[Ob.ren];exact .row0 sz ((hι i hi).trans h)
 |row sz l b c T hb hbb hsz hcl hone hat=>
  simp only[Ob.flatP]at hf;simp only[Ob.ren];exact .row sz l b c T ((hι i hi).trans hb) hbb hsz hcl hone λ i d j e v hi hj hv=>Zg1 4 e v (hf d (uA hi) e (uA hj)) (hat i d j e v hi hj hv)
 |imap l b es clock hb hbb he=>simp only[Ob.ren];exact .imap l b es clock ((hι i hi).trans hb) hbb he
 |iter m k sn b bm hb hm hbb=>
  simp only[Ob.only,yQ,uF]at hon;simp only[Ob.ren];exact .iter _ k sn b bm ((hι i hi).trans hb) ((hι m hon).trans hm) hbb
theorem Zkx {g:Nat->Nat}{ob:Ob}:ob.ren g= .gone↔ob= .gone:=by cases ob<;>simp[Ob.ren]
theorem Zvx (hS:Hold B X w0 n S a w ι){as:Array Operand}(hx:∀x∈as.toList,ZaD x=true){caps:List PV}{carr:Array Value}(hcs:carr.size=caps.length)
  (hcat:∀(j:Nat) p v,caps[j]? =some p->carr[j]? =some v->PV.At w ι X p v)(j:Nat)(x0:PV)(v:Value)(hj2:(as.toList.map S.ev++caps)[j]? =some x0)(hv:(as.map a.eval++carr)[j]? =some v):PV.At w ι X x0 v:=by
 rw[jB]at hj2;rw[gM]at hv;simp only[Array.size_map,uC,Bj]at hv hj2;split at hj2
 ·rename_i hlt;rw[if_pos hlt]at hv;rw[kS]at hv;rw[uI]at hj2;simp only[qS]at hj2;cases hq:as[j]? with
  |none=>rw[hq]at hv;cases hv
  |some x=>
   rw[hq]at hv hj2;simp only[qB,yI]at hv hj2;rw[<-hj2,<-hv];exact hS.ev (hx x (by simpa using gY hq))
 ·rename_i hlt;rw[if_neg hlt]at hv;exact hcat _ _ v hj2 hv
theorem ZqC (htb:w0.tabs=tabs P)(hS:Hold B X w0 n S a w ι){o:Oper}(hd:∀t,o.dst=some t->t<n){h:FuncId}{caps xs args:List PV}{M M':List (Nat×Ob)}{r:PV}{g:Nat->Nat}{fl:Prop}{vs:Array Value}
  (hargs:Zfl S.objs g fl (xs++caps) args)(hcm:Zag P h args M r M')(hids:M'.map (·.1)=M.map (·.1))(hao:(args.all (PV.only (M.map (·.1)) 4))=true)
  (hMo:(M.all λ q=>q.2.only (M.map (·.1)))=true)(hro:r.only (M.map (·.1)) 4=true)(hMo':(M'.all λ q=>q.2.only (M.map (·.1)))=true)(hnd:(M.map λ q=>g q.1).Nodup)
  (hobs:∀q∈M,S.objs (g q.1)=q.2.ren g)(h2000:∀q∈M,2000<=q.1->q.2= .dead)(hng:∀q∈M,q.2≠ .gone)
  (hflat:fl->ZkO r M M'/\∀x∈xs++caps,∀o∈x.refs S.objs 4,o∉M.map λ q=>g q.1)
  (hexec:Zjz P h->(execOp a.eval o).run P w= .ok (.enter h vs) w)(hvsz:vs.size=(xs++caps).length)(hvs:∀(j:Nat) p v,(xs++caps)[j]? =some p->vs[j]? =some v->PV.At w ι X p v)
  {next:Act->World->Prop}{Q:Exit->Act->World->Prop}(rd:List Nat)(hk:∀a' w' ι',Hold B X w0 n (S.app o.dst {val:=r.ren g,wr:=ZcA g M',rd:=rd}) a' w' ι'->next a' w'):
  o.wp P a w next Q:=by
 obtain⟨hcb,hcalls⟩:=hcm;obtain⟨dst,op,ty,pos,af,gd⟩:=o;simp only at hd hk
 let L:=M.map (·.1)
 have hinjg:∀i∈L,∀j∈L,g i=g j->i=j:=by
  have:∀(M:List (Nat×Ob)),(M.map λ q=>g q.1).Nodup->∀i∈M.map (·.1),∀j∈M.map (·.1),g i=g j->i=j:=by
   intro M
   induction M with
   |nil=>intro _ i hi;cases hi
   |cons p M ih=>
    intro hn i hi j hj he;simp only[uT,yW]at hn;simp only[uT,yF]at hi hj;have key:∀j∈M.map (·.1),g p.1≠g j:=by
     intro j hj he;obtain⟨q,hq,rfl⟩:=uP.1 hj;exact hn.1 (uP.2 ⟨q,hq,he.symm⟩)
    rcases hi with rfl|hi<;>rcases hj with rfl|hj
    ·rfl
    ·exact absurd he (key j hj)
    ·exact absurd he.symm (key i hi)
    ·exact ih hn.2 i hi j hj he
  exact this M hnd
 have hndL:L.Nodup:=by
  have:∀(M:List (Nat×Ob)),(M.map λ q=>g q.1).Nodup->(M.map (·.1)).Nodup:=by
   intro M
   induction M with
   |nil=>intro _;exact zA
   |cons p M ih=>
    intro hn;simp only[uT,yW]at hn|-;refine⟨λ hm=>hn.1 ?_,ih hn.2⟩;obtain⟨q,hq,he⟩:=uP.1 hm;exact uP.2 ⟨q,hq,by rw[he]⟩
  exact this M hnd
 have hlive:∀i∈L,S.objs (g i)≠ .gone:=by
  intro i hi;obtain⟨q,hq,rfl⟩:=uP.1 hi;rw[hobs q hq];exact λ he=>hng q hq (Zkx.1 he)
 let ιc:Nat->Option Nat:=λ i=>if i∈L then ι (g i)else none
 let Xc:Nat->Prop:=λ b=>¬fl/\ownX ι X b/\∀i,ιc i≠some b
 have hιc:∀i∈L,ιc i=ι (g i):=λ i hi=>if_pos hi
 have hιcL:∀i b,ιc i=some b->i∈L/\ι (g i)=some b:=by
  intro i b hb;by_cases hi:i∈L
  ·exact⟨hi,by rw[<-hιc i hi];exact hb⟩
  ·simp only[ιc,if_neg hi]at hb;cases hb
 have hXin:∀b,ownX ιc Xc b->ownX ι X b:=by
  rintro b (hb|⟨i,hb⟩)
  ·exact hb.2.1
  ·exact .inr ⟨_,(hιcL i b hb).2⟩
 obtain⟨hlen,hget⟩:=Zwx _ _ hargs;unfold Oper.wp;rw[hexec hcb,Oper.upon_enter];refine Calls.mono (hcalls w ιc Xc _ (λ b hb=>⟨hS.ownlt hb.2.1,hb.2.2⟩) (λ o o' b _ _ h1 h2=>?_) (λ o b hb=>(hS.free _ b (hιcL o b hb).2).2) ?_ ?_ ?_ ?_ ?_) ?_
 ·obtain⟨g1,g2⟩:=hιcL o b h1;obtain⟨g3,g4⟩:=hιcL o' b h2;exact hinjg o g1 o' g3 (hS.inj _ _ b (hlive o g1) (hlive o' g3) g2 g4)
 ·omega
 ·intro j p v hj hv;simp only[uX]at hao;obtain⟨x0,hj2,hfit⟩:=hget j p hj;have hmem0:x0∈xs++caps:=uA hj2
  suffices hx0:PV.At w ι X x0 v by
   rcases hfit with rfl|⟨d,rfl,h1,h2⟩
   ·exact ZoO hιc hXin 4 p v (hao p (uA hj)) hx0
   ·by_cases hfl:fl
    ·refine .d _ _ (Zvj hS hXin 4 x0 v d h1 (λ o ho hlo b hb hY=>?_) hx0);rcases hY with hY|⟨i,hY⟩
     ·exact hY.1 hfl
     ·obtain⟨g1,g2⟩:=hιcL i b hY;have:=hS.inj _ _ b hlo (hlive i g1) hb g2;obtain⟨q,hq,rfl⟩:=uP.1 g1;exact(hflat hfl).2 x0 hmem0 o ho (uP.2 ⟨q,hq,this.symm⟩)
    ·rcases h2 with h2|h2
     ·exact .d _ _ ((Zpj 4 x0 v d h1 h2 hx0).sub hXin)
     ·exact absurd h2 hfl
  exact hvs j x0 v hj2 hv
 ·intro o;by_cases ho:o∈L
  ·obtain⟨q,hq,rfl⟩:=uP.1 ho;rw[Zig M hndL q hq];simp only[uX]at hMo;refine Zt9 hιc hXin ho (hMo q hq) ?_;rw[<-hobs q hq];exact hS.objs _
  ·rw[Zi8 M o ho];exact .dead (if_neg ho)
 ·intro o b hb;exact(hιcL o b hb).1
 ·exact(htb▸hS.tabs:Zer (tabs P) w (ownX ι X)).sub hXin
 rintro e w' ⟨v,ιc',rfl,hr,hobs',hids',hinj',hfree',hos,htape,hout,hsize,hkeep,hstay⟩;have hL':∀i b,ιc' i=some b->i∈L:=λ i b hb=>by show i∈M.map (·.1);rw[<-hids];exact hids' i b hb
 let inv:Nat->Option Nat:=λ o=>L.find? λ i=>g i==o
 have hinv:∀i∈L,inv (g i)=some i:=by
  intro i hi;simp only[inv];cases hq:L.find? λ j=>g j==g i with
  |none=>
   have:=List.find?_eq_none.1 hq i hi;simp at this
  |some j=>
   have h1:=List.find?_some hq;have h2:=List.mem_of_find?_eq_some hq;simp only[zL]at h1;rw[hinjg j h2 i hi h1]
 have hinv2:∀o i,inv o=some i->i∈L/\g i=o:=by
  intro o i h;exact⟨List.mem_of_find?_eq_some h,by simpa using List.find?_some h⟩
 let ι':Nat->Option Nat:=λ o=>match inv o with|some i=>ιc' i|none=>ι o
 have hι'in:∀i∈L,ι' (g i)=ιc' i:=λ i hi=>by simp only[ι',hinv i hi]
 have hι'out:∀o,inv o=none->ι' o=ι o:=λ o ho=>by simp only[ι',ho]
 have hXout:¬fl->∀b,ownX ι' X b->ownX ιc' Xc b:=by
  intro hfl b hb;by_cases hex:∃i,ιc i=some b
  ·obtain⟨i,hi⟩:=hex;exact .inr ⟨i,(hstay i b hi).1⟩
  ·have hno:∀i,ιc i≠some b:=λ i hi=>hex ⟨i,hi⟩
   rcases hb with hb|⟨o,hb⟩
   ·exact .inl ⟨hfl, .inl hb,hno⟩
   ·cases ho:inv o with
    |none=>rw[hι'out o ho]at hb;exact .inl ⟨hfl, .inr ⟨o,hb⟩,hno⟩
    |some i=>
     obtain⟨g1,g2⟩:=hinv2 o i ho;subst g2;rw[hι'in i g1]at hb;exact .inr ⟨i,hb⟩
 have hkeep2:∀b,b<w.heap.size->(∀i∈L,ι (g i)≠some b)->w'.heap[b]? =w.heap[b]? :=λ b hb hn=>hkeep b hb (λ i hi=>hn i (hιcL i b hi).1 (hιcL i b hi).2)
 have h1:∀o b,ι o=some b->ι' o=some b/\bsz w' b=bsz w b:=by
  intro o b hb;refine⟨?_,?_⟩
  ·cases ho:inv o with
   |none=>rw[hι'out o ho];exact hb
   |some i=>
    obtain⟨g1,g2⟩:=hinv2 o i ho;subst g2;rw[hι'in i g1];exact(hstay i b (by rw[hιc i g1];exact hb)).1
  ·by_cases hex:∃i,ιc i=some b
   ·obtain⟨i,hi⟩:=hex;exact(hstay i b hi).2
   ·simp only[bsz,hkeep b (hS.free o b hb).2 (λ i hi=>hex ⟨i,hi⟩)]
 have h2:∀b,ownX ι' X b->ownX ι X b\/w.heap.size<=b:=by
  rintro b (hb|⟨o,hb⟩)
  ·exact .inl (.inl hb)
  ·cases ho:inv o with
   |none=>rw[hι'out o ho]at hb;exact .inl (.inr ⟨o,hb⟩)
   |some i=>
    obtain⟨g1,g2⟩:=hinv2 o i ho;subst g2;rw[hι'in i g1]at hb;rcases(hfree' i b hb).2.1 with⟨i',h⟩|h
    ·exact .inl (.inr ⟨_,(hιcL i' b h).2⟩)
    ·exact .inr h
 have h3:∀b,b<w.heap.size->¬ownX ι X b->w'.heap[b]? =w.heap[b]? :=λ b hb hn=>hkeep2 b hb (λ i _ h=>hn (.inr ⟨_,h⟩))
 have hnd':((ZcA g M').map (·.1)).Nodup:=by
  have e1:(ZcA g M').map (·.1)=(M'.map (·.1)).map g:=by simp[ZcA]
  have e2:(M.map λ q=>g q.1)=(M.map (·.1)).map g:=by simp
  rw[e1,hids,<-e2];exact hnd
 have hnot:∀o,inv o=none->o∉(ZcA g M').map (·.1):=by
  intro o ho hm;simp only[ZcA,gR,uP,Function.comp]at hm;obtain⟨q,hq,rfl⟩:=hm;have:q.1∈L:=by show q.1∈M.map (·.1);rw[<-hids];exact jR hq
  rw[hinv _ this]at ho;cases ho
 have hat:∀i∈L,wrs (ZcA g M') S.objs (g i)=(Zap M' i).ren g:=by
  intro i hi;have g3:i∈M'.map (·.1):=by rw[hids];exact hi
  obtain⟨q,hq,rfl⟩:=uP.1 g3;rw[Zig M' (by rw[hids];exact hndL) q hq];exact ZFM (ZcA g M') S.objs hnd' (g q.1,q.2.ren g) (uP.2 ⟨q,hq,rfl⟩)
 have hbase:Hold B X w0 n {env:=S.env,objs:=wrs (ZcA g M') S.objs} a w' ι':=by
  refine⟨hS.size,hS.defers,⟨hos.trans hS.frame.os,htape.trans hS.frame.tape,hout.trans hS.frame.output,gP hS.frame.size hsize,λ b hb=>?_⟩,hS.hB,hS.hXB,?_,?_,λ t=>(hS.env t).move h1 h2 h3,?_,?_⟩
  ·rw[<-hS.frame.keep b hb];exact hkeep2 b (gG (hS.hB b hb) hS.frame.size) (λ i _ h=>(hS.free _ b h).1 hb)
  ·have mixed:∀o i b,inv o=none->S.objs o≠ .gone->ι o=some b->i∈L->ιc' i=some b->False:=by
    intro o i b ho hg e1 g1 e2;rcases(hfree' i b e2).2.1 with⟨i',h⟩|h
    ·obtain⟨g3,g4⟩:=hιcL i' b h;rw[hS.inj _ _ b hg (hlive i' g3) e1 g4,hinv i' g3]at ho;cases ho
    ·have:=(hS.free o b e1).2;omega
   intro o o' b f1 f2 e1 e2;simp only at f1 f2;cases ho:inv o with
   |none=>
    rw[hι'out o ho]at e1;rw[ZkL _ _ o (hnot o ho)]at f1;cases ho':inv o' with
    |none=>
     rw[hι'out o' ho']at e2;rw[ZkL _ _ o' (hnot o' ho')]at f2;exact hS.inj _ _ b f1 f2 e1 e2
    |some i=>
     obtain⟨g1,g2⟩:=hinv2 o' i ho';subst g2;rw[hι'in i g1]at e2;exact(mixed o i b ho f1 e1 g1 e2).elim
   |some i=>
    obtain⟨g1,g2⟩:=hinv2 o i ho;subst g2;rw[hι'in i g1]at e1;cases ho':inv o' with
    |none=>
     rw[hι'out o' ho']at e2;rw[ZkL _ _ o' (hnot o' ho')]at f2;exact(mixed o' i b ho' f2 e2 g1 e1).elim
    |some i'=>
     obtain⟨g3,g4⟩:=hinv2 o' i' ho';subst g4;rw[hι'in i' g3]at e2;rw[hat i g1]at f1;rw[hat i' g3]at f2;rw[hinj' i i' b (λ he=>f1 (Zkx.2 he)) (λ he=>f2 (Zkx.2 he)) e1 e2]
  ·intro o b hb;cases ho:inv o with
   |none=>rw[hι'out o ho]at hb;exact⟨(hS.free o b hb).1,gG (hS.free o b hb).2 hsize⟩
   |some i=>
    obtain⟨g1,g2⟩:=hinv2 o i ho;subst g2;rw[hι'in i g1]at hb;obtain⟨f1,f2,f3⟩:=hfree' i b hb;refine⟨λ hB=>?_,f3⟩;rcases f2 with⟨i',h⟩|h
    ·exact(hS.free _ b (hιcL i' b h).2).1 hB
    ·have:=hS.hB b hB;have:=hS.frame.size;omega
  ·intro o;simp only;cases ho:inv o with
   |none=>
    rw[ZkL _ _ o (hnot o ho)];exact(hS.objs o).move (hι'out o ho) (λ hg b hb=>hkeep2 b (hS.free o b hb).2 (λ i hi hb'=>by rw[hS.inj _ _ b hg (hlive i hi) hb hb',hinv i hi]at ho;cases ho)) h1 h2 h3
   |some i=>
    obtain⟨g1,g2⟩:=hinv2 o i ho;subst g2;rw[hat i g1];have g3:i∈M'.map (·.1):=by rw[hids];exact g1
    obtain⟨q,hq,rfl⟩:=uP.1 g3;simp only[uX]at hMo';have:=hobs' q.1;rw[Zig M' (by rw[hids];exact hndL) q hq]at this|-;by_cases hfl:fl
    ·exact ZCG hι'in g1 (hMo' q hq) ((hflat hfl).1.2.2 q hq) this
    ·exact ZCF hι'in (hXout hfl) g1 (hMo' q hq) this
  ·intro o b hb;obtain⟨g1,g2,g3⟩:=hS.stay o b hb;obtain⟨g4,g5⟩:=h1 o b g2;exact⟨g1,g4,g5.trans g3⟩
 refine hk (a.put dst v) w' ι' ?_;have hrv:PV.At w' ι' X (r.ren g) v:=by
  by_cases hfl:fl
  ·exact Zuc hι'in 4 r v hro (hflat hfl).1.1 hr
  ·exact Zub hι'in (hXout hfl) 4 r v hro hr
 have:=hbase.put (dst:=dst) (x:=r.ren g) (v:=v) hd hrv;cases dst<;>exact this
theorem Zxa (htb:w0.tabs=tabs P)(hS:Hold B X w0 n S a w ι){dst:Option Nat}{f:Operand}{as:Array Operand}{tys:Array TypeId}{ty:TypeId}{pos:String}{af:Array Edge}{gd:Option (Nat×Bool)}
  (hd:∀t,dst=some t->t<n)(hf:ZaD f=true)(hx:∀x∈as.toList,ZaD x=true){e:Eff}(hc:CallCondM P S.objs (S.ev f) (as.toList.map S.ev) e)
  {next:Act->World->Prop}{Q:Exit->Act->World->Prop}(hk:∀a' w' ι',Hold B X w0 n (S.app dst e) a' w' ι'->next a' w'):
  (Oper.mk dst (.call ⟨.value f,as,tys⟩) ty pos af gd).wp P a w next Q:=by
 obtain⟨h,caps,args,M,M',r,g,fl,hfv,hargs,hcm,hids,hao,hMo,hro,hMo',hnd,hobs,h2000,hng,hflat,rfl⟩:=hc;have hpf:=hS.ev hf;have hfn:∃carr:Array Value,a.eval f= .func (.func h) #[] carr/\carr.size=caps.length/\∀(j:Nat) p v,caps[j]? =some p->carr[j]? =some v->PV.At w ι X p v:=by
  generalize a.eval f=fv at hpf;generalize S.ev f=pf at hpf hfv;unfold ZgW at hfv;split at hfv
  ·cases hfv;cases hpf with
   |d _ _ h=>cases h with|fn _ _ arr hsz h=>exact⟨arr,rfl,by simpa using hsz,λ j p v hj hv=>by
                 rw[uI]at hj;rename_i caps0;cases hq:caps0[j]? with
                 |none=>rw[hq]at hj;cases hj
                 |some q=>rw[hq]at hj;cases hj;exact .d _ _ (h j q v hq hv)⟩
  ·cases hfv;cases hpf with
   |fn _ _ arr hsz h=>exact⟨arr,rfl,hsz,h⟩
  ·cases hfv
 obtain⟨carr,hfe,hcs,hcat⟩:=hfn;refine ZqC (vs:=as.map a.eval++carr) htb hS hd hargs hcm hids hao hMo hro hMo' hnd hobs h2000 hng hflat (λ hcb=>?_) (by simp[hcs]) (λ j p v hj2 hv=>?_) _ hk
 ·simp only[execOp,resolve,hfe,Deferred.ofValue,Sem.run_bind,Sem.run_pure,Result.andThen_ok,invoke,Cv,Zm9 hcb]
 ·exact Zvx hS hx hcs hcat j p v hj2 hv
theorem ZDe {x:Value}{T:TypeId}{m:String}{h:FuncId}{v:Value}{as:Array Value}(hcb:Zjz P h)(hm:(method (P.types.size+Made.depth) T x m).run P w= .ok (h,v) w):
  (invoke (.fn (.method m) #[]) (#[.iface T x]++as)).run P w= .ok (.enter h (#[v]++as)) w:=by
 have e1:(#[Value.iface T x]++as)[0]? =some (.iface T x):=by rw[gM];rfl
 have e2:(#[Value.iface T x]++as).extract 1 (#[Value.iface T x]++as).size=as:=by
  apply Array.ext';simp
 simp only[invoke,e1,e2,callMethod,Sem.run_bind,run_program,Result.andThen_ok,hm,Zm9 hcb]
theorem Zzw (htb:w0.tabs=tabs P)(hS:Hold B X w0 n S a w ι){dst:Option Nat}{r:Operand}{m:String}{as:Array Operand}{tys:Array TypeId}{ty:TypeId}{pos:String}{af:Array Edge}{gd:Option (Nat×Bool)}
  (hd:∀t,dst=some t->t<n)(hr:ZaD r=true)(hx:∀x∈as.toList,ZaD x=true){g:FuncId}{recv:PV}{rd:List Nat}(hI:Inv P S.objs (S.ev r) m g recv rd){e:Eff}(hc:CallCondM P S.objs (.d (.fn g [])) (recv::as.toList.map S.ev) e)
  {next:Act->World->Prop}{Q:Exit->Act->World->Prop}(hk:∀a' w' ι',Hold B X w0 n (S.app dst e) a' w' ι'->next a' w'):
  (Oper.mk dst (.call ⟨.invoke r m,as,tys⟩) ty pos af gd).wp P a w next Q:=by
 obtain⟨h,caps,args,M,M',r',g',fl,hfv,hargs,hcm,hids,hao,hMo,hro,hMo',hnd,hobs,h2000,hng,hflat,rfl⟩:=hc;cases hfv;obtain⟨T,o,hrv,hI⟩:=hI;have hpr:=hS.ev hr;rw[hrv]at hpr;generalize hva:a.eval r=va at hpr;cases hpr with
 |ifp _ _ b hι=>
  obtain⟨v,hm,hv⟩:∃v,(method (P.types.size+Made.depth) T (.pointer (some ⟨b,0,none⟩)) m).run P w= .ok (g,v) w/\PV.At w ι X recv v:=by
   rcases hI with⟨h1,rfl,_⟩|⟨t,h1,h2,rfl,_⟩
   ·exact⟨_,h1 _ w,by have:=PV.At.ptr (w:=w) (X:=X) o 0 0 0 b hι;simpa using this⟩
   ·have hp:PV.At w ι X (.ptr o 0 0 0) (.pointer (some ⟨b,0,none⟩)):=by have:=PV.At.ptr (w:=w) (X:=X) o 0 0 0 b hι;simpa using this
    have h2':(tyi P t).ok=true/\_:=h2;obtain⟨v,hl,hv⟩:=ZlG (P:=P) hS hp h2'.1 h2'.2;refine⟨v,?_,hv⟩;simp only[Instr.loadAt,Instr.sureAddr,Sem.run_bind,Sem.run_pure,Result.andThen_ok]at hl;rw[h1 b w];simp only[Sem.run_bind,hl,Result.andThen_ok,Sem.run_pure]
  refine ZqC (vs:=#[v]++as.map a.eval) htb hS hd hargs hcm hids hao hMo hro hMo' hnd hobs h2000 hng hflat (λ hcb=>?_) (by simp;omega) (λ j p u hj2 hu=>?_) _ hk
  ·simp only[execOp,resolve,hva,Sem.run_bind,Sem.run_pure,Result.andThen_ok,ZDe hcb hm]
  ·simp only[yH,yT]at hj2;cases j with
   |zero=>
    rw[gM]at hu;simp at hj2 hu;subst hj2;subst hu;exact hv
   |succ j=>
    refine Zvx (caps:=[]) (carr:=#[]) hS hx rfl (by simp) j p u (by simpa using hj2) ?_;rw[gM]at hu;simpa using hu
theorem ZqW (htb:w0.tabs=tabs P)(hS:Hold B X w0 n S a w ι){o:Oper}(hpl:Oper.plain n o=true){e:Eff}(h:ZhJ P own o S e){next:Act->World->Prop}{Q:Exit->Act->World->Prop}
  (hk:∀a' w' ι',Hold B X w0 n (S.app o.dst e) a' w' ι'->next a' w'):o.wp P a w next Q:=by
 obtain⟨dst,op,ty,pos,af,gd⟩:=o;have plain:(sem P own S.ev S.objs dst op).1->e=(sem P own S.ev S.objs dst op).2->(Oper.mk dst op ty pos af gd).wp P a w next Q:=by
  intro h1 h2;subst h2;exact(ZEf htb hS (Oper.mk dst op ty pos af gd) hpl h1).wp hk
 cases op with
 |call c=>
  obtain⟨cal,as,tys⟩:=c;cases cal with
  |value f=>
   simp only[Oper.plain,uL,uX]at hpl;rcases h.symm with hc|⟨r,hc,rfl⟩
   ·exact Zxa htb hS (λ t ht=>by have:=hpl.1.2;subst ht;simpa using this) (hpl.1.1 f (by simp[Op.operands,Call.operands])) (λ x hx=>hpl.1.1 x (by simp[Op.operands,Call.operands];right;simpa using hx)) hc hk
   refine Zxb htb hS (λ t ht=>by have:=hpl.1.2;simp only[ht]at this;simpa using this) (hpl.1.1 f (by simp[Op.operands,Call.operands])) (λ x hx=>hpl.1.1 x (by simp[Op.operands,Call.operands];right;simpa using hx)) hc ?_;intro a' w' ι' h';refine hk a' w' ι' ?_;rw[ZiC];exact h'
  |builtin b=>exact plain h.1 h.2
  |invoke r m=>
   simp only[Oper.plain,uL,uX]at hpl;obtain⟨g,recv,rd,e',hI,hc,rfl⟩:=h;exact Zzw htb hS (λ t ht=>by have:=hpl.1.2;subst ht;simpa using this) (hpl.1.1 r (by simp[Op.operands,Call.operands])) (λ x hx=>hpl.1.1 x (by simp[Op.operands,Call.operands];right;simpa using hx)) hI hc hk
 |_=>exact plain h.1 h.2
theorem ZqY (htb:w0.tabs=tabs P)(hS:Hold B X w0 n S a w ι){i:Nat}{o:Oper}(hi:ops[i]? =some o)(hpl:Oper.plain n o=true){e:Eff}(h:Zds P own ops.toList o S e){next:Act->World->Prop}{Q:Exit->Act->World->Prop}
  (hk:∀a' w' ι',Hold B X w0 n (S.app o.dst e) a' w' ι'->next a' w'):Go.wpOp P ops Q i next a w:=by
 unfold Go.wpOp;rw[hi];simp only;unfold Zds at h;cases hg:o.guard with
 |none=>
  rw[hg]at h;simp only at h;simp only[Region.wanted,hg,if_true];exact .inl (ZqW htb hS hpl h hk)
 |some q=>
  obtain⟨j,want⟩:=q;rw[hg]at h;obtain⟨b,hb,h⟩:=h;have hy:yielded ops a.tmps j=b:=by
   unfold grd at hb;unfold yielded;simp only[qS]at hb;cases ht:(ops[j]?).bind (·.dst)with
   |none=>rw[ht]at hb;cases hb
   |some t=>
    rw[ht]at hb;simp only at hb;have he:=hS.env t;simp only[Option.bind_some];split at hb
    ·rename_i b' heq;cases hb;rw[heq]at he;have hv:=ZjL he;rw[qO]at hv;cases hq:a.tmps[t]? with
     |none=>rw[hq]at hv;cases hv
     |some v=>rw[hq]at hv;simp at hv;subst hv;rfl
    ·rename_i heq;cases hb;rw[heq]at he;generalize hv:a.tmps.getD t undef=v at he;cases he;rw[qO]at hv;cases hq:a.tmps[t]? with
     |none=>rfl
     |some v=>rw[hq]at hv;simp at hv;subst hv;rfl
    ·cases hb
  simp only[Region.wanted,hg,hy];by_cases hw:b=some want
  ·rw[if_pos hw]at h;subst hw;simp only[beq_self_eq_true,if_true];exact .inl (ZqW htb hS hpl h hk)
  ·rw[if_neg hw]at h;subst h;have:(b==some want)=false:=by simpa using hw
   rw[this];simp only[qD,jA];refine hk _ _ ι ?_;rw[ZaT];simp only[Oper.plain,uL]at hpl;exact hS.put (λ t ht=>by have:=hpl.1.2;simp only[ht]at this;simpa using this) .und
end
end Go.PS
