/- One operation of a region in the model; two operations that do not touch each other. -/
import Derived.Test.YtjjbhjnpeenbkaaGreatDoorPSOpsC
set_option linter.unusedSimpArgs false
set_option linter.unusedVariables false
set_option maxHeartbeats 16000000
namespace Go.PS
open Go
section
variable {P:Program}{own:Nat->Bool}{objs objs':Nat->Ob}{B X:Nat->Prop}{w0:W0}{w:World}{n:Nat}{S:St}{a:Act}{ι:Nat->Option Nat}{ops:Array Oper}
theorem Iu (hS:Hold B X w0 n S a w ι){Y:Nat->Prop}(hY:∀b,Y b->ownX ι X b):∀(k:Nat) (p:PV) (v:Value) (d:D),toD S.objs k p=some d->(∀o∈p.refs S.objs k,S.objs o≠ .gone->∀b,ι o=some b->¬Y b)->PV.At w ι X p v->D.At w Y d v:=by
 intro k
 induction k with
 |zero=>intro p v d h;simp[toD]at h
 |succ k ih=>
  intro p v d h U O;have A:∀(H:List PV) (K:List D),H.mapM (toD S.objs k)=some K->K.length=H.length/\∀(j:Nat) d,K[j]? =some d->∃p,H[j]? =some p/\toD S.objs k p=some d:=by
   intro H
   induction H with
   |nil=>intro K R;simp at R;subst R;simp
   |cons c H ihc=>
    intro K R;simp only[kT]at R;cases hc:toD S.objs k c with
    |none=>rw[hc]at R;cases R
    |some e=>
     rw[hc]at R;cases hm2:H.mapM (toD S.objs k)with
     |none=>rw[hm2]at R;cases R
     |some es=>
      rw[hm2]at R;cases R;obtain⟨g1,g2⟩:=ihc es hm2;refine⟨by simp[g1],λ j d Q=>?_⟩;cases j with
      |zero=>simp at Q;subst Q;exact⟨c,rfl,hc⟩
      |succ j=>obtain⟨p,O,hq⟩:=g2 j d (by simpa using Q);exact⟨p,by simpa using O,hq⟩
  cases p with
  |d x=>simp[toD]at h;subst h;cases O with|d _ _ O=>exact O.sub hY
  |nilS=>simp[toD]at h;subst h;cases O;exact .slnil none 0
  |z0=>simp[toD]at h;subst h;cases O;exact .slnil _ 0
  |unk=>simp[toD]at h
  |und=>simp[toD]at h
  |ab=>simp[toD]at h
  |mp _=>simp[toD]at h
  |ifp _ _=>simp[toD]at h
  |ref o s Z len cap=>
   simp only[toD]at h;have q:=hS.objs o;have N:S.objs o≠ .gone->∀b,ι o=some b->¬Y b:=U o (by simp only[PV.refs];split<;>simp);cases V:S.objs o with
   |dead=>rw[V]at h;cases h
   |gone=>rw[V]at h;cases h
   |imap _=>rw[V]at h;cases h
   |iter _ _ _=>rw[V]at h;cases h
   |cells H=>
    rw[V]at h q N
    replace N:=N xB
    simp only[PV.refs,V]at U;simp only at h;split at h
    ·rename_i J;obtain⟨rfl,hle⟩:=J;cases hmm:((H.drop Z).take len).mapM (toD S.objs k)with
     |none=>rw[hmm]at h;cases h
     |some K=>
      rw[hmm]at h;cases h;obtain⟨g1,g2⟩:=A _ K hmm;have F:K.length=len:=by rw[g1];simp;omega
      cases O with
      |ref0=>rw[qT F];exact .slnil _ _
      |ref _ _ _ _ _ capr b G hl hc R hs=>
       cases q with
       |cells _ b' c T L hb hsz M z=>
        rw[G]at L;cases L;have C:∀(i:Nat) e,K[i]? =some e->∃v,c[Z+i]? =some v/\c.getD (Z+i) undef=v/\D.At w Y e v/\e.cells=[e]:=by
         intro i e E;obtain⟨p,O,hq⟩:=g2 i e E;have hil:i<len:=by rw[<-F];exact(uB.1 E).1
         rw[qS,if_pos hil,gC]at O;have I:Z+i<c.size:=xA;have hpm:p∈(H.drop Z).take len:=uA (by rw[qS,if_pos hil,gC];exact O);have hat':=ih p _ e hq (λ o ho=>U o (uP _ (zJ.2 ⟨p,hpm,ho⟩))) (z (Z+i) p _ O (yC I));exact⟨_,yC I,by simp[Array.getD,I],hat',hat'.single (M _ _ (yC I))⟩
        have:=D.At.sl (w:=w) (X:=Y) K b (Z*1) capr 1 xA R (λ d hd=>by
          obtain⟨i,E⟩:=qA hd;obtain⟨v,h1,h2,h3,h4⟩:=C i d E;rw[h4];rfl) (λ i j=>c.getD (Z+i+j) undef)
         (λ i d j e E Q=>by
          obtain⟨v,h1,h2,h3,h4⟩:=C i d E;rw[h4]at Q;have hj0:j=0:=by have:=(uB.1 Q).1;simp at this;exact this
          subst hj0;simp only[gX,kS,h2];exact⟨by rw[fE hb];exact h1,M _ v h1,λ h=>N b G h⟩)
         (λ i d j e E Q=>by
          obtain⟨v,h1,h2,h3,h4⟩:=C i d E;rw[h4]at Q;have hj0:j=0:=by have:=(uB.1 Q).1;simp at this;exact this
          subst hj0;cases Q;simp only[gX,h2];exact h3)
        rw[F]at this;exact this
    ·cases h
   |row sz' l=>
    rw[V]at h q N
    replace N:=N xB
    simp only[PV.refs,V]at U;simp only at h;split at h
    ·rename_i J;obtain⟨rfl,hle⟩:=J;cases h;have F:((l.drop Z).take len).length=len:=by simp;omega
     cases O with
     |ref0=>simp only[yQ];exact .slnil _ _
     |ref _ _ _ _ _ capr b G hl hc R hs=>
      cases q with
      |row0 _ h=>rw[h]at G;cases G
      |row _ _ b' c T L hb hsz hcl M h=>
       rw[G]at L;cases L;have C:∀(i:Nat) d (j:Nat) e,((l.drop Z).take len)[i]? =some d->d.cells[j]? =some e->∃v,c[Z*s+i*s+j]? =some v/\c.getD (Z*s+i*s+j) undef=v/\D.At w (ownX ι X) e v:=by
        intro i d j e E Q;rw[qS]at E;split at E
        ·rename_i hil;rw[gC]at E;have hjs:j<s:=by rw[<-hcl d (uA E)];exact(uB.1 Q).1
         have I:(Z+i)*s+j<c.size:=by
          have:(Z+i+1)*s<=l.length*s:=yR _ xA;rw[qN]at this;omega
         have heq:Z*s+i*s+j=(Z+i)*s+j:=by rw[qN]
         rw[heq];have hg:c[(Z+i)*s+j]? =some c[(Z+i)*s+j]:=yC I;exact⟨_,hg,by simp[Array.getD,I],h (Z+i) d j e _ E Q hg⟩
        ·cases E
       have:=D.At.sl (w:=w) (X:=Y) ((l.drop Z).take len) b (Z*s) capr s (by rw[F];exact hl) R (λ d hd=>hcl d (jS (gT hd)))
        (λ i j=>c.getD (Z*s+i*s+j) undef) (λ i d j e E Q=>by
         obtain⟨v,h1,h2,h3⟩:=C i d j e E Q;simp only[h2];exact⟨by rw[fE hb];exact h1,M _ v h1,λ h=>N b G h⟩) (λ i d j e E Q=>by
         obtain⟨v,h1,h2,h3⟩:=C i d j e E Q;simp only[h2];exact h3.sub hY)
       rw[F]at this;exact this
    ·cases h
  |ptr o s i c=>
   simp only[toD]at h;have q:=hS.objs o;have N:S.objs o≠ .gone->∀b,ι o=some b->¬Y b:=U o (by simp only[PV.refs];split<;>simp);cases V:S.objs o with
   |dead=>rw[V]at h;cases h
   |gone=>rw[V]at h;cases h
   |row _ _=>rw[V]at h;cases h
   |imap _=>rw[V]at h;cases h
   |iter _ _ _=>rw[V]at h;cases h
   |cells H=>
    rw[V]at h q N
    replace N:=N xB
    simp only[PV.refs,V]at U;simp only at h;split at h
    ·rename_i J;obtain⟨rfl,rfl⟩:=J;cases R:H.mapM (toD S.objs k)with
     |none=>rw[R]at h;cases h
     |some K=>
      rw[R]at h;cases h;obtain⟨g1,g2⟩:=A H K R;cases O with
      |ptr _ _ _ _ b G=>
       cases q with
       |cells _ b' c T L hb hsz M h=>
        rw[G]at L;cases L;have C:∀(j:Nat) e,K[j]? =some e->∃v,c[j]? =some v/\c.getD j undef=v/\D.At w Y e v:=by
         intro j e Q;obtain⟨p,O,hq⟩:=g2 j e Q;have I:j<c.size:=by have:=(uB.1 Q).1;omega
         exact⟨_,yC I,by simp[Array.getD,I],ih p _ e hq (λ o ho=>U o (uP _ (zJ.2 ⟨p,uA O,ho⟩))) (h j p _ O (yC I))⟩
        refine .pt K b _ (λ j=>c.getD j undef) (λ j e Q=>?_) (λ j e Q=>?_)
        ·obtain⟨v,h1,h2,h3⟩:=C j e Q;simp only[h2];exact⟨by rw[fE hb];simpa using h1,M _ v h1,λ h=>N b G h⟩
        ·obtain⟨v,h1,h2,h3⟩:=C j e Q;simp only[h2];exact h3
    ·cases h
  |ag H=>
   simp only[toD]at h;cases R:H.mapM (toD S.objs k)with
   |none=>rw[R]at h;cases h
   |some K=>
    rw[R]at h;cases h;obtain⟨g1,g2⟩:=A H K R;cases O with
    |ag _ arr hsz M z=>exact .ag K arr xA M λ j d v Q hv=>by
                                 obtain⟨p,O,hq⟩:=g2 j d Q;exact ih p v d hq (λ o ho=>U o (by simp only[PV.refs];exact zJ.2 ⟨p,uA O,ho⟩)) (z j p v O hv)
  |tup H=>
   simp only[toD]at h;cases R:H.mapM (toD S.objs k)with
   |none=>rw[R]at h;cases h
   |some K=>
    rw[R]at h;cases h;obtain⟨g1,g2⟩:=A H K R;cases O with
    |tup _ arr hsz z=>exact .tup K arr xA λ j d v Q hv=>by
                             obtain⟨p,O,hq⟩:=g2 j d Q;exact ih p v d hq (λ o ho=>U o (by simp only[PV.refs];exact zJ.2 ⟨p,uA O,ho⟩)) (z j p v O hv)
  |fn f H=>
   simp only[toD]at h;cases R:H.mapM (toD S.objs k)with
   |none=>rw[R]at h;cases h
   |some K=>
    rw[R]at h;cases h;obtain⟨g1,g2⟩:=A H K R;cases O with
    |fn _ _ arr hsz z=>exact .fn f K arr xA λ j d v Q hv=>by
                              obtain⟨p,O,hq⟩:=g2 j d Q;exact ih p v d hq (λ o ho=>U o (by simp only[PV.refs];exact zJ.2 ⟨p,uA O,ho⟩)) (z j p v O hv)
theorem zp (Z:Hold B X w0 n S a w ι){Y:Nat->Prop}(U:∀b,Y b->X b)(k:Nat)(p:PV)(v:Value)(d:D)(h:toD S.objs k p=some d)(R:PV.At w ι X p v):D.At w Y d v:=
 Iu Z (λ b h=> .inl (U b h)) k p v d h (λ o _ _ b T V=>(Z.free o b T).1 (Z.hXB.1 b (U b V))) R
theorem lN {Y Z:Nat->Prop}:∀(k:Nat) (d:D) (v:Value),d.flat k=true->D.At w Y d v->D.At w Z d v:=by
 intro k
 induction k with
 |zero=>intro d v h;simp[D.flat]at h
 |succ k M=>
  intro d v h K;cases K with
  |sc v L=>exact .sc v L
  |ag N arr U Q V=>
   simp only[D.flat,yF]at h;exact .ag N arr U Q λ j d v R O=>M d v (h d (uA R)) (V j d v R O)
  |slnil T cap=>exact .slnil T cap
  |sl l b J cap s H I U vals O V=>
   simp only[D.flat,Ap]at h;subst h;exact .slnil _ _
  |tup N arr U V=>
   simp only[D.flat,yF]at h;exact .tup N arr U λ j d v R O=>M d v (h d (uA R)) (V j d v R O)
  |pt=>simp[D.flat]at h
  |fn=>simp[D.flat]at h
theorem vH {g:FuncId}(V:qu P g)(args:Array Value):(callFunc g args).run P w= .ok (.enter g args) w:=by
 obtain⟨fn,h,Z,Y⟩:=V;simp only[callFunc,Sem.run_bind,run_program,Result.andThen_ok,h,Y,qK,jH,Z,Sem.run_pure]
theorem Ku (htb:w0.tabs=tabs P)(L:Hold B X w0 n S a w ι){dst:Option Nat}{f:Operand}{as:Array Operand}{tys:Array TypeId}{ty:TypeId}{pos:String}{af:Array Edge}{gd:Option (Nat×Bool)}
  (hd:∀t,dst=some t->t<n)(hf:aZ f=true)(hx:∀x∈as.toList,aZ x=true){r:D}(hc:qt P S.objs (S.ev f) (as.toList.map S.ev) r)
  {next:Act->World->Prop}{Q:Exit->Act->World->Prop}(hk:∀a' w' ι',Hold B X w0 n (S.put dst (.d r)) a' w' ι'->next a' w'):
  (Oper.mk dst (.call ⟨.value f,as,tys⟩) ty pos af gd).wp P a w next Q:=by
 obtain⟨g,T,args,hfv,I,H,F⟩:=hc;have C:=L.ev hf;rw[hfv]at C;obtain⟨hcb,V⟩:=H;have hfn:∃Z:Array Value,a.eval f= .func (.func g) #[] Z/\Z.size=T.length/\∀(j:Nat) d v,T[j]? =some d->Z[j]? =some v->D.At w (ownX ι X) d v:=by
  generalize a.eval f=fv at C;cases C with
  |d _ _ h=>cases h with|fn _ _ arr hsz h=>exact⟨arr,rfl,hsz,h⟩
 obtain⟨Z,hfe,hcs,q⟩:=hfn;have R:args.length=as.toList.length/\∀(j:Nat) d,args[j]? =some d->∃x,as.toList[j]? =some x/\toD S.objs 4 (S.ev x)=some d:=by
  have:∀(xs:List Operand) (z:List D),(xs.map S.ev).mapM (toD S.objs 4)=some z->z.length=xs.length/\∀(j:Nat) d,z[j]? =some d->∃x,xs[j]? =some x/\toD S.objs 4 (S.ev x)=some d:=by
   intro xs
   induction xs with
   |nil=>intro z h;simp at h;subst h;simp
   |cons x xs ih=>
    intro z h;simp only[uS,kT]at h;cases s:toD S.objs 4 (S.ev x)with
    |none=>rw[s]at h;cases h
    |some d=>
     rw[s]at h;cases h2:(xs.map S.ev).mapM (toD S.objs 4)with
     |none=>rw[h2]at h;cases h
     |some es=>
      rw[h2]at h;cases h;obtain⟨g1,g2⟩:=ih es h2;refine⟨by simp[g1],λ j e U=>?_⟩;cases j with
      |zero=>simp at U;subst U;exact⟨x,rfl,s⟩
      |succ j=>obtain⟨y,hy,hq⟩:=g2 j e (by simpa using U);exact⟨y,by simpa using hy,hq⟩
  exact this as.toList args I
 have O:∀(Y:Nat->Prop),(∀(j:Nat) d x,args[j]? =some d->as.toList[j]? =some x->toD S.objs 4 (S.ev x)=some d->D.At w Y d (a.eval x))->(∀b,Y b->ownX ι X b)->oa w Y (args++T) (as.map a.eval++Z):=by
  intro Y s hY;refine⟨by simp[R.1,hcs],λ j d v U J=>?_⟩;rw[jL]at U;rw[gZ]at J;simp only[Array.size_map]at J;have hl1:args.length=as.size:=by simpa using R.1
  rw[hl1]at U;split at U
  ·rename_i E;rw[if_pos E]at J;obtain⟨x,hx1,hx2⟩:=R.2 j d U;rw[zH]at J;have hax:as[j]? =some x:=by simpa using hx1
   rw[hax]at J;cases J;exact s j d x U hx1 hx2
  ·rename_i E;rw[if_neg E]at J;exact(q _ d v U J).sub hY
 have G:(execOp a.eval (Oper.mk dst (.call ⟨.value f,as,tys⟩) ty pos af gd)).run P w= .ok (.enter g (as.map a.eval++Z)) w:=by
  simp only[execOp,resolve,hfe,Deferred.ofValue,Sem.run_bind,Sem.run_pure,Result.andThen_ok,invoke,Df,vH hcb]
 unfold Oper.wp;rw[G,Oper.upon_enter];have fin:∀v w',D.At w' (ownX ι X) r v->RowKit.Below w.heap.size w w'->next (a.put dst v) w':=λ v w' hr N=>hk _ _ _ ((L.ext N).put hd (.d _ _ hr))
 rcases F with K|hfl
 ·refine Calls.mono (V w (ownX ι X) _ (λ b N=>L.ownlt N) (O _ (λ j d x U M A=>?_) (λ _ h=>h)) ?_) ?_
  ·refine zo 4 (S.ev x) _ d A ?_ (L.ev (hx x (uA M)));rw[Cd]at K;exact K _ (kQ (uA M))
  ·exact htb▸L.tabs
  ·rintro e w' ⟨v,rfl,hr,N⟩;exact fin v w' hr N
 ·refine Calls.mono (V w (λ _=>False) _ (λ b N=>N.elim) (O _ (λ j d x U M A=>?_) (λ _ h=>h.elim)) ?_) ?_
  ·exact zp L (λ _ h=>h.elim) 4 (S.ev x) _ d A (L.ev (hx x (uA M)))
  ·exact(htb▸L.tabs:iO (tabs P) w (ownX ι X)).sub λ _ h=>h.elim
  ·rintro e w' ⟨v,rfl,hr,N⟩;exact fin v w' (lN 4 r v hfl hr) N
theorem yj {ι O:Nat->Option Nat}{X H:Nat->Prop}{g:Nat->Nat}{L:List Nat}(Q:∀i∈L,O i=ι (g i))(hX:∀b,ownX O H b->ownX ι X b):
  ∀(k:Nat) (p:PV) (v:Value),p.only L k=true->PV.At w ι X (p.ren g) v->PV.At w O H p v:=by
 intro k
 induction k with
 |zero=>intro p v h;simp[PV.only]at h
 |succ k q=>
  intro p v h Z;have R:∀(V:List PV) (arr:Array Value),V.all (PV.only L k)=true->(∀(j:Nat) p v,(V.map (PV.ren g))[j]? =some p->arr[j]? =some v->PV.At w ι X p v)->
    ∀(j:Nat) p v,V[j]? =some p->arr[j]? =some v->PV.At w O H p v:=by
   intro V arr I Y j p v F z;simp only[yF]at I;exact q p v (I p (uA F)) (Y j _ v (by rw[uJ,F];rfl) z)
  cases p with
  |d x=>simp only[PV.ren,PV.renL_eq]at Z;cases Z with|d _ _ h=>exact .d _ _ (h.sub hX)
  |ref o s G len cap=>
   simp only[PV.ren,PV.renL_eq]at Z;simp only[PV.only,yV,uG]at h;cases Z with
   |ref _ _ _ _ _ K b N E I C A=>exact .ref o s G len cap K b ((Q o h).trans N) E I C A
   |ref0 _ _ _ M=>exact .ref0 _ _ _ M
  |ptr o s i c=>
   simp only[PV.ren,PV.renL_eq]at Z;simp only[PV.only,yV,uG]at h;cases Z with|ptr _ _ _ _ b N=>exact .ptr o s i c b ((Q o h).trans N)
  |nilS=>simp only[PV.ren,PV.renL_eq]at Z;cases Z;exact .nilS
  |z0=>simp only[PV.ren,PV.renL_eq]at Z;cases Z;exact .z0 _
  |unk=>exact .unk _
  |und=>simp only[PV.ren,PV.renL_eq]at Z;cases Z;exact .und
  |ab=>simp only[PV.ren,PV.renL_eq]at Z;cases Z;exact .ab _
  |mp o=>
   simp only[PV.ren,PV.renL_eq]at Z;simp only[PV.only,yV,uG]at h;cases Z with|mp _ b N=>exact .mp o b ((Q o h).trans N)
  |ifp T o=>
   simp only[PV.ren,PV.renL_eq]at Z;simp only[PV.only,yV,uG]at h;cases Z with|ifp _ _ b N=>exact .ifp T o b ((Q o h).trans N)
  |ag V=>
   simp only[PV.ren,PV.renL_eq]at Z;cases Z with|ag _ arr U J Y=>exact .ag V arr (by simpa using U) J (R V arr h Y)
  |tup V=>
   simp only[PV.ren,PV.renL_eq]at Z;cases Z with|tup _ arr U Y=>exact .tup V arr (by simpa using U) (R V arr h Y)
  |fn f V=>
   simp only[PV.ren,PV.renL_eq]at Z;cases Z with|fn _ _ arr U Y=>exact .fn f V arr (by simpa using U) (R V arr h Y)
theorem G4 {ι Q:Nat->Option Nat}{X F:Nat->Prop}{g:Nat->Nat}{L:List Nat}(R:∀i∈L,ι (g i)=Q i)(hX:∀b,ownX ι X b->ownX Q F b):
  ∀(k:Nat) (p:PV) (v:Value),p.only L k=true->PV.At w Q F p v->PV.At w ι X (p.ren g) v:=by
 intro k
 induction k with
 |zero=>intro p v h;simp[PV.only]at h
 |succ k ih=>
  intro p v h A;have U:∀(Y:List PV) (arr:Array Value),Y.all (PV.only L k)=true->(∀(j:Nat) p v,Y[j]? =some p->arr[j]? =some v->PV.At w Q F p v)->
    ∀(j:Nat) p v,(Y.map (PV.ren g))[j]? =some p->arr[j]? =some v->PV.At w ι X p v:=by
   intro Y arr H Z j p v K hv;simp only[yF]at H;rw[uJ]at K;cases G:Y[j]? with
   |none=>rw[G]at K;cases K
   |some q=>rw[G]at K;cases K;exact ih q v (H q (uA G)) (Z j q v G hv)
  cases A with
  |d x v h=>simp only[PV.ren,PV.renL_eq];exact .d _ _ (h.sub hX)
  |ref o s I len cap M b N E H C z=>
   simp only[PV.only,yV,uG]at h;simp only[PV.ren,PV.renL_eq];exact .ref _ s I len cap M b ((R o h).trans N) E H C z
  |ref0 o s I O=>simp only[PV.ren,PV.renL_eq];exact .ref0 _ _ _ O
  |ptr o s i c b N=>
   simp only[PV.only,yV,uG]at h;simp only[PV.ren,PV.renL_eq];exact .ptr _ s i c b ((R o h).trans N)
  |nilS=>simp only[PV.ren,PV.renL_eq];exact .nilS
  |z0 O=>simp only[PV.ren,PV.renL_eq];exact .z0 _
  |unk v=>simp only[PV.ren,PV.renL_eq];exact .unk _
  |und=>simp only[PV.ren,PV.renL_eq];exact .und
  |ab b=>simp only[PV.ren,PV.renL_eq];exact .ab b
  |mp o b N=>
   simp only[PV.only,yV,uG]at h;simp only[PV.ren,PV.renL_eq];exact .mp _ b ((R o h).trans N)
  |ifp T o b N=>
   simp only[PV.only,yV,uG]at h;simp only[PV.ren,PV.renL_eq];exact .ifp T _ b ((R o h).trans N)
  |ag Y arr V J Z=>simp only[PV.ren,PV.renL_eq];exact .ag _ arr (by simpa using V) J (U Y arr h Z)
  |tup Y arr V Z=>simp only[PV.ren,PV.renL_eq];exact .tup _ arr (by simpa using V) (U Y arr h Z)
  |fn f Y arr V Z=>simp only[PV.ren,PV.renL_eq];exact .fn f _ arr (by simpa using V) (U Y arr h Z)
theorem G2 {ι K:Nat->Option Nat}{X F:Nat->Prop}{g:Nat->Nat}{L:List Nat}(Z:∀i∈L,K i=ι (g i))(hX:∀b,ownX K F b->ownX ι X b){i:Nat}{I:Ob}
  (Q:i∈L)(R:I.only L=true)(U:Ob.At w ι X (g i) (I.ren g)):Ob.At w K F i I:=by
 cases I with
 |gone=>exact .gone
 |dead=>simp only[Ob.ren]at U;cases U with|dead h=>exact .dead ((Z i Q).trans h)
 |cells C=>
  simp only[Ob.ren]at U;simp only[Ob.only,yF]at R;cases U with
  |cells _ b c T N Y M V O=>
   exact .cells C b c T ((Z i Q).trans N) Y (by simpa using M) V λ j p v J G=>yj Z hX 4 p v (R p (uA J)) (O j _ v (by rw[uJ,J];rfl) G)
 |row s l=>
  simp only[Ob.ren]at U;cases U with
  |row0 _ h=>exact .row0 s ((Z i Q).trans h)
  |row _ _ b c T N Y M H V O=>exact .row s l b c T ((Z i Q).trans N) Y M H V λ i d j e v Q J G=>(O i d j e v Q J G).sub hX
 |imap l=>
  simp only[Ob.ren]at U;cases U with
  |imap _ b A clock N Y z=>exact .imap l b A clock ((Z i Q).trans N) Y z
 |iter m k sn=>
  simp only[Ob.ren]at U;simp only[Ob.only,yV,uG]at R;cases U with
  |iter _ _ _ b E N q Y=>exact .iter m k sn b E ((Z i Q).trans N) ((Z m R).trans q) Y
theorem QL {ι K:Nat->Option Nat}{X F:Nat->Prop}{g:Nat->Nat}{L:List Nat}(Z:∀i∈L,ι (g i)=K i)(hX:∀b,ownX ι X b->ownX K F b){i:Nat}{G:Ob}
  (R:i∈L)(U:G.only L=true)(ho:Ob.At w K F i G):Ob.At w ι X (g i) (G.ren g):=by
 cases ho with
 |gone=>simp only[Ob.ren];exact .gone
 |dead h=>simp only[Ob.ren];exact .dead ((Z i R).trans h)
 |cells C b c T O Y M V Q=>
  simp only[Ob.only,yF]at U;simp only[Ob.ren];refine .cells _ b c T ((Z i R).trans O) Y (by simpa using M) V λ j p v N H=>?_
  rw[uJ]at N;cases J:C[j]? with
  |none=>rw[J]at N;cases N
  |some q=>rw[J]at N;cases N;exact G4 Z hX 4 q v (U q (uA J)) (Q j q v J H)
 |row0 s h=>simp only[Ob.ren];exact .row0 s ((Z i R).trans h)
 |row s l b c T O Y M I V Q=>simp only[Ob.ren];exact .row s l b c T ((Z i R).trans O) Y M I V λ i d j e v R N H=>(Q i d j e v R N H).sub hX
 |imap l b A clock O Y z=>simp only[Ob.ren];exact .imap l b A clock ((Z i R).trans O) Y z
 |iter m k sn b E O hm Y=>
  simp only[Ob.only,yV,uG]at U;simp only[Ob.ren];exact .iter _ k sn b E ((Z i R).trans O) ((Z m U).trans hm) Y
theorem oK :∀(M:List (Nat×Ob)),(M.map (·.1)).Nodup->∀q∈M,aL M q.1=q.2:=by
 intro M
 induction M with
 |nil=>intro _ q h;cases h
 |cons p M T=>
  intro Y q Z;simp only[uS,qI]at Y;rcases yI.1 Z with rfl|Z
  ·exact if_pos rfl
  ·have V:q.1≠p.1:=λ U=>Y.1 (by rw[<-U];exact kQ Z)
   show upd p.1 p.2 (aL M) q.1=_;rw[upd,if_neg V];exact T Y.2 q Z
theorem pV :∀(M:List (Nat×Ob)) (o:Nat),o∉M.map (·.1)->aL M o= .dead:=by
 intro M
 induction M with
 |nil=>intro o _;rfl
 |cons p M Z=>
  intro o h;simp only[uS,yI,not_or]at h;show upd p.1 p.2 (aL M) o=_;rw[upd,if_neg h.1];exact Z o h.2
theorem Ua :∀(M:List (Nat×Ob)) (objs:Nat->Ob),(M.map (·.1)).Nodup->∀q∈M,wrs M objs q.1=q.2:=by
 intro M
 induction M with
 |nil=>intro _ _ q h;cases h
 |cons p M T=>
  intro objs Y q Z;simp only[uS,qI]at Y;rcases yI.1 Z with rfl|Z
  ·exact if_pos rfl
  ·have V:q.1≠p.1:=λ U=>Y.1 (by rw[<-U];exact kQ Z)
   show upd p.1 p.2 (wrs M objs) q.1=_;rw[upd,if_neg V];exact T objs Y.2 q Z
theorem sI :∀(M:List (Nat×Ob)) (objs:Nat->Ob) (o:Nat),o∉M.map (·.1)->wrs M objs o=objs o:=by
 intro M
 induction M with
 |nil=>intro objs o _;rfl
 |cons p M Z=>
  intro objs o h;simp only[uS,yI,not_or]at h;show upd p.1 p.2 (wrs M objs) o=_;rw[upd,if_neg h.1];exact Z objs o h.2
theorem JO {objs:Nat->Ob}{g:Nat->Nat}{V:Prop}:∀(xs Z:List PV),ku objs g V xs Z->xs.length=Z.length/\∀(j:Nat) p,Z[j]? =some p->∃x,xs[j]? =some x/\(x=p.ren g\/∃d,p= .d d/\toD objs 4 x=some d/\(x.refs objs 4=[]\/V)):=by
 intro xs
 induction xs with
 |nil=>
  intro Z h;cases Z with
  |nil=>exact⟨rfl,xB⟩
  |cons=>exact h.elim
 |cons x xs M=>
  intro Z h;cases Z with
  |nil=>exact h.elim
  |cons p Z=>
   obtain⟨R,Q⟩:=h;obtain⟨U,T⟩:=M Z Q;refine⟨by simp[U],λ j q Y=>?_⟩;cases j with
   |zero=>simp at Y;subst Y;exact⟨x,rfl,R⟩
   |succ j=>obtain⟨y,N,O⟩:=T j q (by simpa using Y);exact⟨y,by simpa using N,O⟩
theorem G5 {ι N:Nat->Option Nat}{X C:Nat->Prop}{g:Nat->Nat}{L:List Nat}(R:∀i∈L,ι (g i)=N i):
  ∀(k:Nat) (p:PV) (v:Value),p.only L k=true->p.flatP k=true->PV.At w N C p v->PV.At w ι X (p.ren g) v:=by
 intro k
 induction k with
 |zero=>intro p v h;simp[PV.only]at h
 |succ k ih=>
  intro p v h E hp;have U:∀(Y:List PV) (arr:Array Value),Y.all (PV.only L k)=true->Y.all (PV.flatP k)=true->(∀(j:Nat) p v,Y[j]? =some p->arr[j]? =some v->PV.At w N C p v)->
    ∀(j:Nat) p v,(Y.map (PV.ren g))[j]? =some p->arr[j]? =some v->PV.At w ι X p v:=by
   intro Y arr F K Z j p v J hv;simp only[yF]at F K;rw[uJ]at J;cases H:Y[j]? with
   |none=>rw[H]at J;cases J
   |some q=>rw[H]at J;cases J;exact ih q v (F q (uA H)) (K q (uA H)) (Z j q v H hv)
  cases hp with
  |d x v h=>simp only[PV.ren];exact .d _ _ (lN 4 x v (by simpa[PV.flatP]using E) h)
  |ref o s G len cap M b O A F z hs=>
   simp only[PV.only,yV,uG]at h;simp only[PV.ren];exact .ref _ s G len cap M b ((R o h).trans O) A F z hs
  |ref0 o s G Q=>simp only[PV.ren];exact .ref0 _ _ _ Q
  |ptr o s i c b O=>
   simp only[PV.only,yV,uG]at h;simp only[PV.ren];exact .ptr _ s i c b ((R o h).trans O)
  |nilS=>simp only[PV.ren];exact .nilS
  |z0 Q=>simp only[PV.ren];exact .z0 _
  |unk v=>simp only[PV.ren];exact .unk _
  |und=>simp only[PV.ren];exact .und
  |ab b=>simp only[PV.ren];exact .ab b
  |mp o b O=>
   simp only[PV.only,yV,uG]at h;simp only[PV.ren];exact .mp _ b ((R o h).trans O)
  |ifp T o b O=>
   simp only[PV.only,yV,uG]at h;simp only[PV.ren];exact .ifp T _ b ((R o h).trans O)
  |ag Y arr V I Z=>simp only[PV.ren,PV.renL_eq];exact .ag _ arr (by simpa using V) I (U Y arr h E Z)
  |tup Y arr V Z=>simp only[PV.ren,PV.renL_eq];exact .tup _ arr (by simpa using V) (U Y arr h E Z)
  |fn f Y arr V Z=>simp only[PV.ren,PV.renL_eq];exact .fn f _ arr (by simpa using V) (U Y arr h E Z)
theorem QM {ι J:Nat->Option Nat}{X E:Nat->Prop}{g:Nat->Nat}{L:List Nat}(Z:∀i∈L,ι (g i)=J i){i:Nat}{H:Ob}
  (U:i∈L)(R:H.only L=true)(I:H.flatP)(ho:Ob.At w J E i H):Ob.At w ι X (g i) (H.ren g):=by
 cases ho with
 |gone=>simp only[Ob.ren];exact .gone
 |dead h=>simp only[Ob.ren];exact .dead ((Z i U).trans h)
 |cells A b c T N Y M V O=>
  simp only[Ob.only,yF]at R;simp only[Ob.flatP,yF]at I;simp only[Ob.ren];refine .cells _ b c T ((Z i U).trans N) Y (by simpa using M) V λ j p v Q F=>?_
  rw[uJ]at Q;cases K:A[j]? with
  |none=>rw[K]at Q;cases Q
  |some q=>rw[K]at Q;cases Q;exact G5 Z 4 q v (R q (uA K)) (I q (uA K)) (O j q v K F)
 |row0 s h=>simp only[Ob.ren];exact .row0 s ((Z i U).trans h)
 |row s l b c T N Y M G V O=>
  simp only[Ob.flatP]at I;simp only[Ob.ren];exact .row s l b c T ((Z i U).trans N) Y M G V λ i d j e v U Q F=>lN 4 e v (I d (uA U) e (uA Q)) (O i d j e v U Q F)
 |imap l b z clock N Y he=>simp only[Ob.ren];exact .imap l b z clock ((Z i U).trans N) Y he
 |iter m k sn b C N hm Y=>
  simp only[Ob.only,yV,uG]at R;simp only[Ob.ren];exact .iter _ k sn b C ((Z i U).trans N) ((Z m R).trans hm) Y
theorem si {g:Nat->Nat}{Z:Ob}:Z.ren g= .gone↔Z= .gone:=by cases Z<;>simp[Ob.ren]
theorem IQ (R:Hold B X w0 n S a w ι){as:Array Operand}(O:∀x∈as.toList,aZ x=true){caps:List PV}{carr:Array Value}(Q:carr.size=caps.length)
  (V:∀(j:Nat) p v,caps[j]? =some p->carr[j]? =some v->PV.At w ι X p v)(j:Nat)(T:PV)(v:Value)(h:(as.toList.map S.ev++caps)[j]? =some T)(Z:(as.map a.eval++carr)[j]? =some v):PV.At w ι X T v:=by
 rw[jL]at h;rw[gZ]at Z;simp only[Array.size_map,uC,Bv]at Z h;split at h
 ·rename_i Y;rw[if_pos Y]at Z;rw[zH]at Z;rw[uJ]at h;simp only[qY]at h;cases U:as[j]? with
  |none=>rw[U]at Z;cases Z
  |some x=>
   rw[U]at Z h;simp only[qB,yM]at Z h;rw[<-h,<-Z];exact R.ev (O x (by simpa using jJ U))
 ·rename_i Y;rw[if_neg Y]at Z;exact V _ _ v h Z
theorem CX (htb:w0.tabs=tabs P)(N:Hold B X w0 n S a w ι){o:Oper}(hd:∀t,o.dst=some t->t<n){h:FuncId}{caps xs args:List PV}{M M':List (Nat×Ob)}{r:PV}{g:Nat->Nat}{fl:Prop}{vs:Array Value}
  (hargs:ku S.objs g fl (xs++caps) args)(hcm:ax P h args M r M')(F:M'.map (·.1)=M.map (·.1))(hao:(args.all (PV.only (M.map (·.1)) 4))=true)
  (hMo:(M.all λ q=>q.2.only (M.map (·.1)))=true)(hro:r.only (M.map (·.1)) 4=true)(hMo':(M'.all λ q=>q.2.only (M.map (·.1)))=true)(hnd:(M.map λ q=>g q.1).Nodup)
  (hobs:∀q∈M,S.objs (g q.1)=q.2.ren g)(h2000:∀q∈M,2000<=q.1->q.2= .dead)(hng:∀q∈M,q.2≠ .gone)
  (hflat:fl->sK r M M'/\∀x∈xs++caps,∀o∈x.refs S.objs 4,o∉M.map λ q=>g q.1)
  (hexec:qu P h->(execOp a.eval o).run P w= .ok (.enter h vs) w)(hvsz:vs.size=(xs++caps).length)(hvs:∀(j:Nat) p v,(xs++caps)[j]? =some p->vs[j]? =some v->PV.At w ι X p v)
  {next:Act->World->Prop}{Q:Exit->Act->World->Prop}(rd:List Nat)(hk:∀a' w' G,Hold B X w0 n (S.app o.dst {val:=r.ren g,wr:=et g M',rd:=rd}) a' w' G->next a' w'):
  o.wp P a w next Q:=by
 obtain⟨hcb,hcalls⟩:=hcm;obtain⟨dst,op,ty,pos,af,gd⟩:=o;simp only at hd hk
 let L:=M.map (·.1)
 have hinjg:∀i∈L,∀j∈L,g i=g j->i=j:=by
  have:∀(M:List (Nat×Ob)),(M.map λ q=>g q.1).Nodup->∀i∈M.map (·.1),∀j∈M.map (·.1),g i=g j->i=j:=by
   intro M
   induction M with
   |nil=>intro _ i R;cases R
   |cons p M ih=>
    intro hn i R j hj he;simp only[uS,qI]at hn;simp only[uS,yI]at R hj;have key:∀j∈M.map (·.1),g p.1≠g j:=by
     intro j hj he;obtain⟨q,I,rfl⟩:=uR.1 hj;exact hn.1 (uR.2 ⟨q,I,he.symm⟩)
    rcases R with rfl|R<;>rcases hj with rfl|hj
    ·rfl
    ·exact absurd he (key j hj)
    ·exact absurd he.symm (key i R)
    ·exact ih hn.2 i R j hj he
  exact this M hnd
 have hndL:L.Nodup:=by
  have:∀(M:List (Nat×Ob)),(M.map λ q=>g q.1).Nodup->(M.map (·.1)).Nodup:=by
   intro M
   induction M with
   |nil=>intro _;exact zL
   |cons p M ih=>
    intro hn;simp only[uS,qI]at hn|-;refine⟨λ hm=>hn.1 ?_,ih hn.2⟩;obtain⟨q,I,he⟩:=uR.1 hm;exact uR.2 ⟨q,I,by rw[he]⟩
  exact this M hnd
 have E:∀i∈L,S.objs (g i)≠ .gone:=by
  intro i R;obtain⟨q,I,rfl⟩:=uR.1 R;rw[hobs q I];exact λ he=>hng q I (si.1 he)
 let s:Nat->Option Nat:=λ i=>if i∈L then ι (g i)else none
 let Xc:Nat->Prop:=λ b=>¬fl/\ownX ι X b/\∀i,s i≠some b
 have hιc:∀i∈L,s i=ι (g i):=λ i R=>if_pos R
 have U:∀i b,s i=some b->i∈L/\ι (g i)=some b:=by
  intro i b Y;by_cases R:i∈L
  ·exact⟨R,by rw[<-hιc i R];exact Y⟩
  ·simp only[s,if_neg R]at Y;cases Y
 have hXin:∀b,ownX s Xc b->ownX ι X b:=by
  rintro b (Y|⟨i,Y⟩)
  ·exact Y.2.1
  ·exact .inr ⟨_,(U i b Y).2⟩
 obtain⟨hlen,hget⟩:=JO _ _ hargs;unfold Oper.wp;rw[hexec hcb,Oper.upon_enter];refine Calls.mono (hcalls w s Xc _ (λ b Y=>⟨N.ownlt Y.2.1,Y.2.2⟩) (λ o o' b _ _ h1 h2=>?_) (λ o b Y=>(N.free _ b (U o b Y).2).2) ?_ ?_ ?_ ?_ ?_) ?_
 ·obtain⟨J,C⟩:=U o b h1;obtain⟨g3,g4⟩:=U o' b h2;exact hinjg o J o' g3 (N.inj _ _ b (E o J) (E o' g3) C g4)
 ·omega
 ·intro j p v hj hv;simp only[yF]at hao;obtain⟨x0,hj2,hfit⟩:=hget j p hj;have hmem0:x0∈xs++caps:=uA hj2
  suffices hx0:PV.At w ι X x0 v by
   rcases hfit with rfl|⟨d,rfl,h1,h2⟩
   ·exact yj hιc hXin 4 p v (hao p (uA hj)) hx0
   ·by_cases H:fl
    ·refine .d _ _ (Iu N hXin 4 x0 v d h1 (λ o T hlo b Y hY=>?_) hx0);rcases hY with hY|⟨i,hY⟩
     ·exact hY.1 H
     ·obtain⟨J,C⟩:=U i b hY;have:=N.inj _ _ b hlo (E i J) Y C;obtain⟨q,I,rfl⟩:=uR.1 J;exact(hflat H).2 x0 hmem0 o T (uR.2 ⟨q,I,this.symm⟩)
    ·rcases h2 with h2|h2
     ·exact .d _ _ ((zo 4 x0 v d h1 h2 hx0).sub hXin)
     ·exact absurd h2 H
  exact hvs j x0 v hj2 hv
 ·intro o;by_cases T:o∈L
  ·obtain⟨q,I,rfl⟩:=uR.1 T;rw[oK M hndL q I];simp only[yF]at hMo;refine G2 hιc hXin T (hMo q I) ?_;rw[<-hobs q I];exact N.objs _
  ·rw[pV M o T];exact .dead (if_neg T)
 ·intro o b Y;exact(U o b Y).1
 ·exact(htb▸N.tabs:iO (tabs P) w (ownX ι X)).sub hXin
 rintro e w' ⟨v,ιc',rfl,hr,hobs',hids',hinj',A,hos,htape,hout,hsize,hkeep,hstay⟩;have hL':∀i b,ιc' i=some b->i∈L:=λ i b Y=>by show i∈M.map (·.1);rw[<-F];exact hids' i b Y
 let K:Nat->Option Nat:=λ o=>L.find? λ i=>g i==o
 have hinv:∀i∈L,K (g i)=some i:=by
  intro i R;simp only[K];cases I:L.find? λ j=>g j==g i with
  |none=>
   have:=List.find?_eq_none.1 I i R;simp at this
  |some j=>
   have h1:=List.find?_some I;have h2:=List.mem_of_find?_eq_some I;simp only[zZ]at h1;rw[hinjg j h2 i R h1]
 have O:∀o i,K o=some i->i∈L/\g i=o:=by
  intro o i h;exact⟨List.mem_of_find?_eq_some h,by simpa using List.find?_some h⟩
 let G:Nat->Option Nat:=λ o=>match K o with|some i=>ιc' i|none=>ι o
 have Z:∀i∈L,G (g i)=ιc' i:=λ i R=>by simp only[G,hinv i R]
 have V:∀o,K o=none->G o=ι o:=λ o T=>by simp only[G,T]
 have hXout:¬fl->∀b,ownX G X b->ownX ιc' Xc b:=by
  intro H b Y;by_cases hex:∃i,s i=some b
  ·obtain⟨i,R⟩:=hex;exact .inr ⟨i,(hstay i b R).1⟩
  ·have hno:∀i,s i≠some b:=λ i R=>hex ⟨i,R⟩
   rcases Y with Y|⟨o,Y⟩
   ·exact .inl ⟨H, .inl Y,hno⟩
   ·cases T:K o with
    |none=>rw[V o T]at Y;exact .inl ⟨H, .inr ⟨o,Y⟩,hno⟩
    |some i=>
     obtain⟨J,C⟩:=O o i T;subst C;rw[Z i J]at Y;exact .inr ⟨i,Y⟩
 have z:∀b,b<w.heap.size->(∀i∈L,ι (g i)≠some b)->w'.heap[b]? =w.heap[b]? :=λ b Y hn=>hkeep b Y (λ i R=>hn i (U i b R).1 (U i b R).2)
 have h1:∀o b,ι o=some b->G o=some b/\bsz w' b=bsz w b:=by
  intro o b Y;refine⟨?_,?_⟩
  ·cases T:K o with
   |none=>rw[V o T];exact Y
   |some i=>
    obtain⟨J,C⟩:=O o i T;subst C;rw[Z i J];exact(hstay i b (by rw[hιc i J];exact Y)).1
  ·by_cases hex:∃i,s i=some b
   ·obtain⟨i,R⟩:=hex;exact(hstay i b R).2
   ·simp only[bsz,hkeep b (N.free o b Y).2 (λ i R=>hex ⟨i,R⟩)]
 have h2:∀b,ownX G X b->ownX ι X b\/w.heap.size<=b:=by
  rintro b (Y|⟨o,Y⟩)
  ·exact .inl (.inl Y)
  ·cases T:K o with
   |none=>rw[V o T]at Y;exact .inl (.inr ⟨o,Y⟩)
   |some i=>
    obtain⟨J,C⟩:=O o i T;subst C;rw[Z i J]at Y;rcases(A i b Y).2.1 with⟨i',h⟩|h
    ·exact .inl (.inr ⟨_,(U i' b h).2⟩)
    ·exact .inr h
 have h3:∀b,b<w.heap.size->¬ownX ι X b->w'.heap[b]? =w.heap[b]? :=λ b Y hn=>z b Y (λ i _ h=>hn (.inr ⟨_,h⟩))
 have hnd':((et g M').map (·.1)).Nodup:=by
  have e1:(et g M').map (·.1)=(M'.map (·.1)).map g:=by simp[et]
  have e2:(M.map λ q=>g q.1)=(M.map (·.1)).map g:=xB;rw[e1,F,<-e2];exact hnd
 have hnot:∀o,K o=none->o∉(et g M').map (·.1):=by
  intro o T hm;simp only[et,gU,uR,Function.comp]at hm;obtain⟨q,I,rfl⟩:=hm;have:q.1∈L:=by show q.1∈M.map (·.1);rw[<-F];exact kQ I
  rw[hinv _ this]at T;cases T
 have hat:∀i∈L,wrs (et g M') S.objs (g i)=(aL M' i).ren g:=by
  intro i R;have g3:i∈M'.map (·.1):=by rw[F];exact R
  obtain⟨q,I,rfl⟩:=uR.1 g3;rw[oK M' (by rw[F];exact hndL) q I];exact Ua (et g M') S.objs hnd' (g q.1,q.2.ren g) (uR.2 ⟨q,I,rfl⟩)
 have hbase:Hold B X w0 n {env:=S.env,objs:=wrs (et g M') S.objs} a w' G:=by
  refine⟨N.size,N.defers,⟨hos.trans N.frame.os,htape.trans N.frame.tape,hout.trans N.frame.output,gY N.frame.size hsize,λ b Y=>?_⟩,N.hB,N.hXB,?_,?_,λ t=>(N.env t).move h1 h2 h3,?_,?_⟩
  ·rw[<-N.frame.keep b Y];exact z b (gS (N.hB b Y) N.frame.size) (λ i _ h=>(N.free _ b h).1 Y)
  ·have mixed:∀o i b,K o=none->S.objs o≠ .gone->ι o=some b->i∈L->ιc' i=some b->False:=by
    intro o i b T hg e1 J e2;rcases(A i b e2).2.1 with⟨i',h⟩|h
    ·obtain⟨g3,g4⟩:=U i' b h;rw[N.inj _ _ b hg (E i' g3) e1 g4,hinv i' g3]at T;cases T
    ·have:=(N.free o b e1).2;omega
   intro o o' b f1 f2 e1 e2;simp only at f1 f2;cases T:K o with
   |none=>
    rw[V o T]at e1;rw[sI _ _ o (hnot o T)]at f1;cases ho':K o' with
    |none=>
     rw[V o' ho']at e2;rw[sI _ _ o' (hnot o' ho')]at f2;exact N.inj _ _ b f1 f2 e1 e2
    |some i=>
     obtain⟨J,C⟩:=O o' i ho';subst C;rw[Z i J]at e2;exact(mixed o i b T f1 e1 J e2).elim
   |some i=>
    obtain⟨J,C⟩:=O o i T;subst C;rw[Z i J]at e1;cases ho':K o' with
    |none=>
     rw[V o' ho']at e2;rw[sI _ _ o' (hnot o' ho')]at f2;exact(mixed o' i b ho' f2 e2 J e1).elim
    |some i'=>
     obtain⟨g3,g4⟩:=O o' i' ho';subst g4;rw[Z i' g3]at e2;rw[hat i J]at f1;rw[hat i' g3]at f2;rw[hinj' i i' b (λ he=>f1 (si.2 he)) (λ he=>f2 (si.2 he)) e1 e2]
  ·intro o b Y;cases T:K o with
   |none=>rw[V o T]at Y;exact⟨(N.free o b Y).1,gS (N.free o b Y).2 hsize⟩
   |some i=>
    obtain⟨J,C⟩:=O o i T;subst C;rw[Z i J]at Y;obtain⟨f1,f2,f3⟩:=A i b Y;refine⟨λ hB=>?_,f3⟩;rcases f2 with⟨i',h⟩|h
    ·exact(N.free _ b (U i' b h).2).1 hB
    ·have:=N.hB b hB;have:=N.frame.size;omega
  ·intro o;simp only;cases T:K o with
   |none=>
    rw[sI _ _ o (hnot o T)];exact(N.objs o).move (V o T) (λ hg b Y=>z b (N.free o b Y).2 (λ i R hb'=>by rw[N.inj _ _ b hg (E i R) Y hb',hinv i R]at T;cases T)) h1 h2 h3
   |some i=>
    obtain⟨J,C⟩:=O o i T;subst C;rw[hat i J];have g3:i∈M'.map (·.1):=by rw[F];exact J
    obtain⟨q,I,rfl⟩:=uR.1 g3;simp only[yF]at hMo';have:=hobs' q.1;rw[oK M' (by rw[F];exact hndL) q I]at this|-;by_cases H:fl
    ·exact QM Z J (hMo' q I) ((hflat H).1.2.2 q I) this
    ·exact QL Z (hXout H) J (hMo' q I) this
  ·intro o b Y;obtain⟨J,C,g3⟩:=N.stay o b Y;obtain⟨g4,g5⟩:=h1 o b C;exact⟨J,g4,g5.trans g3⟩
 refine hk (a.put dst v) w' G ?_;have hrv:PV.At w' G X (r.ren g) v:=by
  by_cases H:fl
  ·exact G5 Z 4 r v hro (hflat H).1.1 hr
  ·exact G4 Z (hXout H) 4 r v hro hr
 have:=hbase.put (dst:=dst) (x:=r.ren g) (v:=v) hd hrv;cases dst<;>exact this
theorem Kt (htb:w0.tabs=tabs P)(C:Hold B X w0 n S a w ι){dst:Option Nat}{f:Operand}{as:Array Operand}{tys:Array TypeId}{ty:TypeId}{pos:String}{af:Array Edge}{gd:Option (Nat×Bool)}
  (hd:∀t,dst=some t->t<n)(hf:aZ f=true)(hx:∀x∈as.toList,aZ x=true){e:Eff}(hc:CallCondM P S.objs (S.ev f) (as.toList.map S.ev) e)
  {next:Act->World->Prop}{Q:Exit->Act->World->Prop}(hk:∀a' w' ι',Hold B X w0 n (S.app dst e) a' w' ι'->next a' w'):
  (Oper.mk dst (.call ⟨.value f,as,tys⟩) ty pos af gd).wp P a w next Q:=by
 obtain⟨h,U,args,M,M',r,g,fl,Y,O,s,H,A,E,hro,K,hnd,F,R,hng,N,rfl⟩:=hc;have V:=C.ev hf;have hfn:∃Z:Array Value,a.eval f= .func (.func h) #[] Z/\Z.size=U.length/\∀(j:Nat) p v,U[j]? =some p->Z[j]? =some v->PV.At w ι X p v:=by
  generalize a.eval f=fv at V;generalize S.ev f=pf at V Y;unfold m6 at Y;split at Y
  ·cases Y;cases V with
   |d _ _ h=>cases h with|fn _ _ arr L h=>exact⟨arr,rfl,by simpa using L,λ j p v G hv=>by
                 rw[uJ]at G;rename_i T;cases hq:T[j]? with
                 |none=>rw[hq]at G;cases G
                 |some q=>rw[hq]at G;cases G;exact .d _ _ (h j q v hq hv)⟩
  ·cases Y;cases V with
   |fn _ _ arr L h=>exact⟨arr,rfl,L,h⟩
  ·cases Y
 obtain⟨Z,b,I,J⟩:=hfn;refine CX (vs:=as.map a.eval++Z) htb C hd O s H A E hro K hnd F R hng N (λ z=>?_) (by simp[I]) (λ j p v hj2 hv=>?_) _ hk
 ·simp only[execOp,resolve,b,Deferred.ofValue,Sem.run_bind,Sem.run_pure,Result.andThen_ok,invoke,Df,vH z]
 ·exact IQ C hx I J j p v hj2 hv
theorem Rt {x:Value}{T:TypeId}{m:String}{h:FuncId}{v:Value}{as:Array Value}(Z:qu P h)(U:(method (P.types.size+Made.depth) T x m).run P w= .ok (h,v) w):
  (invoke (.fn (.method m) #[]) (#[.iface T x]++as)).run P w= .ok (.enter h (#[v]++as)) w:=by
 have Y:(#[Value.iface T x]++as)[0]? =some (.iface T x):=by rw[gZ];rfl
 have V:(#[Value.iface T x]++as).extract 1 (#[Value.iface T x]++as).size=as:=by
  apply Array.ext';simp
 simp only[invoke,Y,V,callMethod,Sem.run_bind,run_program,Result.andThen_ok,U,vH Z]
theorem MS (htb:w0.tabs=tabs P)(H:Hold B X w0 n S a w ι){dst:Option Nat}{r:Operand}{m:String}{as:Array Operand}{tys:Array TypeId}{ty:TypeId}{pos:String}{af:Array Edge}{gd:Option (Nat×Bool)}
  (hd:∀t,dst=some t->t<n)(hr:aZ r=true)(hx:∀x∈as.toList,aZ x=true){g:FuncId}{recv:PV}{rd:List Nat}(F:Inv P S.objs (S.ev r) m g recv rd){e:Eff}(hc:CallCondM P S.objs (.d (.fn g [])) (recv::as.toList.map S.ev) e)
  {next:Act->World->Prop}{Q:Exit->Act->World->Prop}(hk:∀a' w' ι',Hold B X w0 n (S.app dst e) a' w' ι'->next a' w'):
  (Oper.mk dst (.call ⟨.invoke r m,as,tys⟩) ty pos af gd).wp P a w next Q:=by
 obtain⟨h,caps,args,M,M',r',g',fl,s,V,z,L,C,E,hro,N,q,K,Y,hng,U,rfl⟩:=hc;cases s;obtain⟨T,o,hrv,F⟩:=F;have R:=H.ev hr;rw[hrv]at R;generalize hva:a.eval r=va at R;cases R with
 |ifp _ _ b I=>
  obtain⟨v,hm,hv⟩:∃v,(method (P.types.size+Made.depth) T (.pointer (some ⟨b,0,none⟩)) m).run P w= .ok (g,v) w/\PV.At w ι X recv v:=by
   rcases F with⟨G,rfl,_⟩|⟨t,G,h2,rfl,_⟩
   ·exact⟨_,G _ w,by have:=PV.At.ptr (w:=w) (X:=X) o 0 0 0 b I;simpa using this⟩
   ·have hp:PV.At w ι X (.ptr o 0 0 0) (.pointer (some ⟨b,0,none⟩)):=by have:=PV.At.ptr (w:=w) (X:=X) o 0 0 0 b I;simpa using this
    have O:(tyi P t).ok=true/\_:=h2;obtain⟨v,hl,hv⟩:=tG (P:=P) H hp O.1 O.2;refine⟨v,?_,hv⟩;simp only[Instr.loadAt,Instr.sureAddr,Sem.run_bind,Sem.run_pure,Result.andThen_ok]at hl;rw[G b w];simp only[Sem.run_bind,hl,Result.andThen_ok,Sem.run_pure]
  refine CX (vs:=#[v]++as.map a.eval) htb H hd V z L C E hro N q K Y hng U (λ A=>?_) (by simp;omega) (λ j p u Z J=>?_) _ hk
  ·simp only[execOp,resolve,hva,Sem.run_bind,Sem.run_pure,Result.andThen_ok,Rt A hm]
  ·simp only[uY,yS]at Z;cases j with
   |zero=>
    rw[gZ]at J;simp at Z J;subst Z;subst J;exact hv
   |succ j=>
    refine IQ (caps:=[]) (carr:=#[]) H hx rfl xB j p u (by simpa using Z) ?_;rw[gZ]at J;simpa using J
theorem DK (V:w0.tabs=tabs P)(M:Hold B X w0 n S a w ι){o:Oper}(Z:Oper.plain n o=true){e:Eff}(h:oe P own o S e){next:Act->World->Prop}{Q:Exit->Act->World->Prop}
  (L:∀N w' U,Hold B X w0 n (S.app o.dst e) N w' U->next N w'):o.wp P a w next Q:=by
 obtain⟨Y,op,H,pos,J,I⟩:=o;have plain:(sem P own S.ev S.objs Y op).1->e=(sem P own S.ev S.objs Y op).2->(Oper.mk Y op H pos J I).wp P a w next Q:=by
  intro F E;subst E;exact(Sw V M (Oper.mk Y op H pos J I) Z F).wp L
 cases op with
 |call c=>
  obtain⟨K,as,A⟩:=c;cases K with
  |value f=>
   simp only[Oper.plain,uN,yF]at Z;rcases h.symm with T|⟨r,T,rfl⟩
   ·exact Kt V M (λ t R=>by have:=Z.1.2;subst R;simpa using this) (Z.1.1 f (by simp[Op.operands,Call.operands])) (λ x O=>Z.1.1 x (by simp[Op.operands,Call.operands];right;simpa using O)) T L
   refine Ku V M (λ t R=>by have:=Z.1.2;simp only[R]at this;simpa using this) (Z.1.1 f (by simp[Op.operands,Call.operands])) (λ x O=>Z.1.1 x (by simp[Op.operands,Call.operands];right;simpa using O)) T ?_;intro N w' U G;refine L N w' U ?_;rw[pe];exact G
  |builtin b=>exact plain h.1 h.2
  |invoke r m=>
   simp only[Oper.plain,uN,yF]at Z;obtain⟨g,recv,s,z,C,T,rfl⟩:=h;exact MS V M (λ t R=>by have:=Z.1.2;subst R;simpa using this) (Z.1.1 r (by simp[Op.operands,Call.operands])) (λ x O=>Z.1.1 x (by simp[Op.operands,Call.operands];right;simpa using O)) C T L
 |_=>exact plain h.1 h.2
theorem DM (O:w0.tabs=tabs P)(N:Hold B X w0 n S a w ι){i:Nat}{o:Oper}(F:ops[i]? =some o)(V:Oper.plain n o=true){e:Eff}(h:fN P own ops.toList o S e){next:Act->World->Prop}{Q:Exit->Act->World->Prop}
  (I:∀G w' H,Hold B X w0 n (S.app o.dst e) G w' H->next G w'):Go.wpOp P ops Q i next a w:=by
 unfold Go.wpOp;rw[F];simp only;unfold fN at h;cases M:o.guard with
 |none=>
  rw[M]at h;simp only at h;simp only[Region.wanted,M,if_true];exact .inl (DK O N V h I)
 |some q=>
  obtain⟨j,U⟩:=q;rw[M]at h;obtain⟨b,Y,h⟩:=h;have E:yielded ops a.tmps j=b:=by
   unfold grd at Y;unfold yielded;simp only[qY]at Y;cases K:(ops[j]?).bind (·.dst)with
   |none=>rw[K]at Y;cases Y
   |some t=>
    rw[K]at Y;simp only at Y;have R:=N.env t;simp only[Option.bind_some];split at Y
    ·rename_i C T;cases Y;rw[T]at R;have Z:=ri R;rw[qU]at Z;cases L:a.tmps[t]? with
     |none=>rw[L]at Z;cases Z
     |some v=>rw[L]at Z;simp at Z;subst Z;rfl
    ·rename_i T;cases Y;rw[T]at R;generalize Z:a.tmps.getD t undef=v at R;cases R;rw[qU]at Z;cases L:a.tmps[t]? with
     |none=>rfl
     |some v=>rw[L]at Z;simp at Z;subst Z;rfl
    ·cases Y
  simp only[Region.wanted,M,E];by_cases J:b=some U
  ·rw[if_pos J]at h;subst J;simp only[beq_self_eq_true,if_true];exact .inl (DK O N V h I)
  ·rw[if_neg J]at h;subst h;have:(b==some U)=false:=by simpa using J
   rw[this];simp only[qK,jH];refine I _ _ ι ?_;rw[bH];simp only[Oper.plain,uN]at V;exact N.put (λ t K=>by have:=V.1.2;simp only[K]at this;simpa using this) .und
end
end Go.PS
