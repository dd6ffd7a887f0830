/- A slice of one slice, and its append to slices. -/
import Derived.Test.YtjjbhjnpeenbkaaGreatDoorPSOps7b
set_option linter.unusedSimpArgs false
set_option linter.unusedVariables false
set_option maxHeartbeats 16000000
namespace Go.PS
open Go
section hold
variable {P:Program}{B X:Nat->Prop}{w0:W0}{w:World}{n:Nat}{S:St}{a:Act}{ι:Nat->Option Nat}{dst:Option Nat}{ty:TypeId}{pos:String}{af:Array Edge}{gd:Option (Nat×Bool)}
theorem Ev (H:Hold B X w0 n S a w ι){o:Oper}{t:Nat}(Y:o.dst=some t)(z:t<n)(Z:S.objs t= .dead){w':World}{k cap:Nat}{cs:List PV}{arr:Array Value}{e:TypeId}
  (A:(execOp a.eval o).run P w= .ok (.value (.slice (some ⟨w.heap.size,0,none⟩) k cap)) w')(K:w'.os=w.os)(I:w'.tape=w.tape)(Q:w'.output=w.output)(J:w'.heap.size=w.heap.size+1)
  (U:∀b,b<w.heap.size->w'.heap[b]? =w.heap[b]?)(V:w'.heap[w.heap.size]? =some (.cells arr e (0,0)))(C:cs.length=k)(h:k<=cap)(M:cap<=maxLen)(T:arr.size=cap)
  (R:∀(j:Nat) (v:Value),arr[j]? =some v->v.oneCell'=true)(N:∀(j:Nat) p v,cs[j]? =some p->arr[j]? =some v->PV.At w ι X p v):
  bC P B X w0 n o (S.app o.dst {val:= .ref t 1 0 k k,wr:=[(t, .cells cs)]}) a w:=by
 have L:Ob.At w' (upd t (some w.heap.size) ι) X t (.cells cs):=
  .cells cs w.heap.size arr e (if_pos rfl) V (by rw[T,C];exact h) R λ j p v E s=>(N j p v E s).alloc H Z U
 have F:=H.alloc Z w' K I Q J U _ L;refine⟨_,_,upd t (some w.heap.size) ι, .inl A,?_⟩;have O:=F.put (dst:=o.dst) (x:= .ref t 1 0 k k) (v:= .slice (some ⟨w.heap.size,0*1,none⟩) k cap) (λ u G=>by rw[Y]at G;cases G;exact z)
  (.ref t 1 0 _ _ cap w.heap.size (if_pos rfl) h h M (by simp only[bsz,V,T,yU,kS]))
 rw[jP]at O;rw[Y]at O|-;exact O
theorem R7 (hS:Hold B X w0 n S a w ι){T:TypeId}{m:Nat}{V:Array (Nat×Operand)}(hd:∀t,dst=some t->t<n)(hx:∀p∈V.toList,aZ p.2=true)
  (H:(jo S.objs dst (tyi P T) (tyi P (tyi P T).elem) m (V.toList.map λ p=>(p.1,S.ev p.2))).1):
  bC P B X w0 n ⟨dst, .buildSlice T m V,ty,pos,af,gd⟩ (S.app dst (jo S.objs dst (tyi P T) (tyi P (tyi P T).elem) m (V.toList.map λ p=>(p.1,S.ev p.2))).2) a w:=by
 unfold jo at H|-;split at H
 ·rename_i t i p h;obtain⟨hk,hz,J,rfl,rfl,s,R⟩:=H;have hu:=gy hk;obtain⟨ie,z,N,F,hzs,M,_,hz1,hne,hzz,_⟩:=qq hz;generalize he:(tyi P (tyi P T).elem)=ety at*;obtain⟨q,hq,Z⟩:∃q,V.toList=[q]/\(q.1,S.ev q.2)=(0,p):=by
   cases K:V.toList with
   |nil=>rw[K]at h;cases h
   |cons q qs=>
    rw[K]at h;simp only[uS,List.cons.injEq,List.map_eq_nil_iff]at h;obtain⟨I,rfl⟩:=h;exact⟨q,rfl,I⟩
  obtain⟨q1,G⟩:=q;simp only[Bw]at Z;obtain⟨rfl,Z⟩:=Z;have C:=hS.ev (hx (0,G) (by rw[hq];exact uX.2 rfl));simp only at C;rw[Z]at C;have A:p.cells?=some [p]:=by cases p<;>first|rfl|cases s
  obtain⟨c1,c2,c3⟩:=C.cells A;obtain⟨z0,hz0⟩:∃z0,z.cells=#[z0]:=by
   have:z.cells.size=1:=hzs.trans J;exact⟨z.cells[0],by
    refine Array.ext (by simpa using this) λ i I Y=>?_
    have:i=0:=by simp at Y;exact Y
    subst this;rfl⟩
  have L:∃O,(a.eval G).cells=#[O]:=by
   refine⟨(a.eval G).cells[0]'(by rw[c1];exact Nat.one_pos),?_⟩;refine Array.ext (by simpa using c1) λ i I Y=>?_
   have:i=0:=by simp at Y;exact Y
   subst this;rfl
  obtain⟨O,Q⟩:=L;have U:Instr.fill (λ i=>some (i*1,1)) ((Array.range (1*1)).map (λ k=>z.cells[k%z.cells.size]!)) [(0,a.eval G)]=some #[O]:=by
   have e0:(Array.range (1*1)).map (λ k=>z.cells[k%z.cells.size]!)=#[z0]:=by
    rw[hz0];refine Array.ext xB λ i I Y=>?_
    have:i=0:=by simp at Y;exact Y
    subst this;simp
   rw[e0];simp[Instr.fill,Q]
  have hr:(Instr.buildSlice T 1 (V.map λ(i,x)=>(i,a.eval x))).run P w= .ok (.slice (some ⟨w.heap.size,0,none⟩) 1 1) (w.alloc (.cells #[O] (tyi P T).elem)):=by
   simp only[Instr.buildSlice,Sem.run_bind,run_underlying hu,Result.andThen_ok,sizeOf,typeInfo,N,run_program,Sem.run_pure,Sem.run_ite];rw[M,J];simp only[show¬(1*1>2^24) by omega,jH,Sem.run_pure,Result.andThen_ok,kS,Nat.one_ne_zero,Sem.run_bind,zeroValue,typeInfo,N,F,run_program];simp only[Array.toList_map,hq,uS,uY];rw[kS]at U;simp only[kS]at U;rw[U];simp[newRow]
  refine Ev (P:=P) (o:=⟨some t, .buildSlice T 1 V,ty,pos,af,gd⟩) hS rfl (hd t rfl) R (w':=w.alloc (.cells #[O] (tyi P T).elem)) (k:=1) (cap:=1) (cs:=[p]) (arr:=#[O]) (e:=(tyi P T).elem)
   (by simp only[execOp,Sem.run_bind,hr,Result.andThen_ok,Sem.run_pure]) rfl rfl rfl xB (λ b hb=>heap_alloc_old w _ hb) (heap_alloc_new w _) rfl (uI _) xC rfl (λ j v E=>c2 j v (by rw[Q];exact E)) λ j p' v E hv=>?_
  exact c3 j p' v E (by rw[Q];exact hv)
 ·exact H.elim
theorem KC {o:Nat}{Q:Ob}{cs:List PV}(h:Ob.At w ι X o Q)(Z:om Q=some cs):
  (ι o=none/\cs=[])\/∃b arr T,ι o=some b/\w.heap[b]? =some (.cells arr T (0,0))/\cs.length<=arr.size/\(∀(j:Nat) (v:Value),arr[j]? =some v->v.oneCell'=true)/\
   ∀(j:Nat) p v,cs[j]? =some p->arr[j]? =some v->PV.At w ι X p v:=by
 cases h with
 |dead=>cases Z
 |gone=>cases Z
 |imap=>cases Z
 |iter=>cases Z
 |cells O b arr T V R U Y h=>cases Z;exact .inr ⟨b,arr,T,V,R,U,Y,h⟩
 |row0 s h=>
  simp only[om]at Z;split at Z
  ·cases Z;exact .inl ⟨h,rfl⟩
  ·cases Z
 |row s l b arr T V R U N Y h=>
  simp only[om]at Z;split at Z
  ·cases Z;exact .inr ⟨b,arr,T,V,R,uF _,Y,λ j p v M=>by simp at M⟩
  ·cases Z
theorem KB (I:Hold B X w0 n S a w ι){x:PV}{v:Value}{p:PV}{K:Nat}(h:ip S.objs x=some (p,K))(C:PV.At w ι X x v):
  ∃b c,v= .slice (some ⟨b,0,none⟩) 1 c/\∃arr T u,w.heap[b]? =some (.cells arr T (0,0))/\arr[0]? =some u/\u.oneCell'=true/\PV.At w ι X p u:=by
 cases x<;>try (simp only[ip]at h;cases h;done)
 rename_i o sz A len cap;simp only[ip]at h;cases Y:rV (S.objs o)with
 |none=>rw[Y]at h;cases h
 |some p'=>
  rw[Y]at h;simp only at h;split at h
  ·rename_i G;obtain⟨rfl,rfl,rfl⟩:=G;cases h;have N:S.objs K= .cells [p]:=by
    unfold rV at Y;split at Y<;>first|(cases Y;assumption)|cases Y
   have U:=I.objs K;rw[N]at U;cases C with
   |ref _ _ _ _ _ V b L s F q E=>
    cases U with
    |cells _ z arr T Z H M R Q=>
     rw[L]at Z;cases Z;have J:0<arr.size:=M;have O:arr[0]? =some arr[0]:=yC J;exact⟨b,V,xB,arr,T,arr[0],H,O,R _ _ O,Q 0 p _ rfl O⟩
  ·cases h
theorem R1 (E:Hold B X w0 n S a w ι){t u:TypeId}{s x:Operand}{p:PV}{o2:Nat}(hd:∀t,dst=some t->t<n)(hs:aZ s=true)(hx:aZ x=true)(hp:ip S.objs (S.ev x)=some (p,o2))
  (hc:(l6 S.objs dst (tyi P t) (tyi P u) (tyi P (tyi P t).elem) (S.ev s) p o2).1):
  bC P B X w0 n ⟨dst, .call ⟨.builtin .append,#[s,x],#[t,u]⟩,ty,pos,af,gd⟩ (S.app dst (l6 S.objs dst (tyi P t) (tyi P u) (tyi P (tyi P t).elem) (S.ev s) p o2).2) a w:=by
 have hps:=E.ev hs;obtain⟨bx,cx,hxv,arrx,Tx,G,hbx,hux,hu1,hpu⟩:=KB E hp (E.ev hx);unfold l6 at hc|-;split at hc
 ·rename_i R o sz off len cap hsv;rw[hsv]at hps;cases K:om (S.objs o)with
  |none=>rw[K]at hc;exact hc.elim
  |some cs=>
  rw[K]at hc;simp only at hc|-;obtain⟨hk1,hk2,hz,hs1,hby,N,rfl,rfl,hlen,hroom⟩:=hc;have ht'n:R<n:=hd R rfl;have ht:=gy hk1;have hu:=gy hk2;obtain⟨ie,z,hie,hiz,hzs,hisz,hiby,hz1,I,hzz,_⟩:=qq hz;generalize he:(tyi P (tyi P t).elem)=ety at*;have hlive:S.objs o≠ .gone:=λ h=>by rw[h]at K;cases K
  have hto:R≠o:=λ h=>by rw[<-h,N]at K;cases K
  have rdrop:∀(q:St) (r:List Nat) (v:PV) (wr:List (Nat×Ob)),q.app (some R) {val:=v,wr:=wr,rd:=r}=q.app (some R) {val:=v,wr:=wr}:=λ q r v wr=>rfl
  rw[rdrop];have C:∀(sv:Value),a.eval s=sv->∀v w',(Builtin.append_ #[t,u] ty #[sv,a.eval x]).run P w= .ok v w'->
    (execOp a.eval ⟨some R, .call ⟨.builtin .append,#[s,x],#[t,u]⟩,ty,pos,af,gd⟩).run P w= .ok (.value v) w':=by
   intro sv hsv v w' hr;simp only[execOp,resolve,invoke,builtin,Sem.run_bind,Sem.run_pure,Result.andThen_ok,List.map_toArray,uS,uY,hsv,hr]
  have hfx:∀w1:World,w1.heap=w.heap->(Builtin.firstCells 1 1 (a.eval x)).run P w1= .ok [G].toArray w1:=λ w1 h1=>by
   rw[hxv];refine run_firstCells_some (P:=P) w1 1 1 ⟨bx,0,none⟩ 1 cx [G] rfl (λ j v Y=>?_);cases j with
   |succ j=>simp at Y
   |zero=>
    cases Y;rw[gg,yU,fE (w:=w1) (by rw[h1];exact hbx)];exact hux
  have U:ie.size=1:=hisz.trans hs1;have hzs1:z.cells.size=1:=hzs.trans hs1;simp only[roomy]at hroom
  have fresh:∀(base:Option Addr) (Z:Nat) (olds:List Value),a.eval s= .slice base len Z->Z<len+1->(Builtin.firstCells ie.size len (.slice base len Z)).run P w.drew= .ok olds.toArray w.drew->olds.length=len->
    (∀u∈olds,u.oneCell'=true)->(∀(j:Nat) q v,cs[j]? =some q->olds[j]? =some v->PV.At w ι X q v)->
    bC P B X w0 n ⟨some R, .call ⟨.builtin .append,#[s,x],#[t,u]⟩,ty,pos,af,gd⟩ (S.app (some R) {val:= .ref R 1 0 (len+1) (len+1),wr:=[(R, .cells (cs.take len++[p])),(o, .gone)]}) a w:=by
   intro base Z olds H hgr ho hol ho1 hoat;refine bC.gone (P:=P) (o:=⟨some R, .call ⟨.builtin .append,#[s,x],#[t,u]⟩,ty,pos,af,gd⟩) hto ?_;have hr:=um (P:=P) (w:=w) (ty':=ty) ht hu hie hiz (base:=base) (len:=len) (cap:=Z) (m:=1) (x:=a.eval x) (olds:=olds) (aJ:=[G]) ⟨_,cx,hxv⟩ ho (by rw[U];exact hfx _ rfl) hgr hroom xA;have hge:=grownCap_ge w (len+1) Z (tyi P t).elem;have hsza:(olds.toArray++[G].toArray++Builtin.zeroCells z.cells (grownCap w (len+1) Z (tyi P t).elem-(len+1))).size=grownCap w (len+1) Z (tyi P t).elem:=by
    simp only[Array.size_append,zA,hol,size_zeroCells,hzs1,uV,uU];omega
   refine Ev (P:=P) (o:=⟨some R, .call ⟨.builtin .append,#[s,x],#[t,u]⟩,ty,pos,af,gd⟩) E rfl ht'n N (k:=len+1) (C _ H _ _ hr) rfl rfl rfl xB (λ b hb=>heap_alloc_old w.drew _ hb) (heap_alloc_new w.drew _)
    (by simp;omega) hge (grownCap_le_maxLen w _ _ _ (by simp only[maxLen];omega)) hsza (λ j v Y=>?_) (λ j q v Q Y=>?_)
   ·rw[gZ,gZ]at Y;split at Y
    ·split at Y
     ·exact ho1 v (uA (by simpa using Y))
     ·have:=uA (l:=[G]) (by simpa using Y);rw[uX]at this;rw[this];exact hu1
    ·exact I5 hz1 _ v Y
   ·have hjl:j<len+1:=by
     have:=(uB.1 Q).1;simp at this;omega
    rw[Aa (by simp[hol];omega),gZ]at Y;simp only[zA,hol,zG]at Y;rw[jL]at Q;simp only[yA,jF hlen]at Q;by_cases J:j<len
    ·rw[if_pos J]at Q Y;rw[qS,if_pos J]at Q;exact hoat j q v Q Y
    ·rw[if_neg J]at Q Y;have:j-len=0:=xA;rw[this]at Q Y;cases Q;cases Y;exact hpu
  generalize H:a.eval s=va at hps;cases hps with
  |ref0 _ _ _ base=>
   exact fresh base 0 [] H xA (by cases base<;>simp[Builtin.firstCells,loadCells,loadCellsFrom]) rfl xB xB
  |ref _ _ _ _ _ Z b O hl hcc hm hss=>
   simp only[jP]at H;rcases KC (E.objs o) K with⟨h,_⟩|⟨F,c,T,hι',hb,hsz,hone,hat⟩
   ·rw[h]at O;cases O
   ·rw[O]at hι';cases hι';simp only[yU,bsz,hb,kS]at hss;have hlc:len<=c.size:=xA;by_cases A:len+1<=Z
    ·have M:len+[G].length<=c.size:=by simp;omega
     have hr:=Hn (P:=P) (w:=w) (ty':=ty) ht hu hie hb (x:=a.eval x) (aJ:=[G]) (len:=len) (cap:=Z) (m:=1) ⟨_,cx,hxv⟩ (by rw[U];exact hfx _ rfl) (by simp[U]) (λ v hv=>by rw[uX.1 hv];exact hu1) A (by rw[U,kS];exact M);rw[U,kS]at hr;have hit:ι R=none:=E.dead N;have hX1:∀F,ownX (upd R (some b) ι) X F->ownX ι X F:=λ F V=>(xK V).elim id (λ he=>he▸ .inr ⟨o,O⟩)
     have mv:∀q v,PV.At w ι X q v->PV.At (w.setRow b (c.toList.take len++[G]++c.toList.drop (len+[G].length)).toArray) (upd R (some b) ι) X q v:=λ q v Q=>
      (PV.At.store E O hb (f4 _ _ _ M) Q).move (λ o' F V=>⟨by rw[upd,if_neg (λ h=>by rw[h,hit]at V;cases V)];exact V,rfl⟩) (λ F V=> .inl (hX1 F V)) (λ _ _ _=>rfl)
     have hob':Ob.At (w.setRow b (c.toList.take len++[G]++c.toList.drop (len+[G].length)).toArray) (upd R (some b) ι) X R (.cells (cs.take len++[p])):=by
      refine .cells _ b _ T (if_pos rfl) (setRow_heap w b c _ T (0,0) hb) ?_ (λ j v Y=>?_) (λ j q v Q Y=>?_)
      ·rw[f4 _ _ _ M,uH,yA,jF hlen];exact M
      ·rw[lC _ _ _ M]at Y;split at Y
       ·exact hone j v Y
       ·split at Y
        ·rw[uX.1 (uA Y)];exact hu1
        ·exact hone j v Y
      ·refine mv q v ?_;have hjl:j<len+1:=by
        have:=(uB.1 Q).1;simp at this;omega
       rw[lC _ _ _ M]at Y;rw[jL]at Q;simp only[yA,jF hlen]at Q;by_cases J:j<len
       ·rw[if_pos J]at Q Y;rw[qS,if_pos J]at Q;exact hat j q v Q Y
       ·rw[if_neg J]at Q Y;rw[if_pos (by simpa using hjl)]at Y;have:j-len=0:=xA;rw[this]at Q Y;cases Q;cases Y;exact hpu
     have h0:=E.gone o;have hdead0:({env:=S.env,objs:=upd o .gone S.objs}:St).objs R= .dead:=by simp only[upd,if_neg hto];exact N
     have h1:=h0.change (some b) R (.cells (cs.take len++[p])) (upd R (some b) ι) (w.setRow b (c.toList.take len++[G]++c.toList.drop (len+[G].length)).toArray) rfl rfl rfl xB
      (λ o' I=>if_neg I) (λ F V=>by rw[h0.dead hdead0]at V;cases V)
      (λ F V=>by
       cases V;refine⟨⟨o,O⟩,λ o' I hg ho'=>?_,by simp only[bsz,hb,setRow_heap w b c _ T (0,0) hb,f4 _ _ _ M]⟩;have L:o'≠o:=λ he=>hg (by subst he;exact if_pos rfl)
       simp only[upd,if_neg L]at hg;exact L (E.inj o' o b hg hlive ho' O))
      (λ F _ I=>setRow_other w b F _ (λ he=>I (by rw[he])))
      (λ F V=>by
       rw[upd,if_pos rfl]at V;cases V;refine⟨.inr (.inr ⟨⟨o,O⟩,λ o' I hg ho'=>?_⟩),by rw[un];exact(E.free o b O).2⟩;have L:o'≠o:=λ he=>hg (by subst he;exact if_pos rfl)
       simp only[upd,if_neg L]at hg;exact L (E.inj o' o b hg hlive ho' O)) hob'
     refine⟨_,_,upd R (some b) ι, .inl (C _ H _ _ hr),?_⟩;have h2:=h1.put (dst:=some R) (x:= .ref R 1 0 (len+1) (len+1)) (v:= .slice (some ⟨b,0*1,none⟩) (len+1) Z) hd
      (.ref R 1 0 _ _ Z b (if_pos rfl) A A hm (by simp only[bsz,setRow_heap w b c _ T (0,0) hb,f4 _ _ _ M,yU,kS,hss]))
     rw[jP]at h2;exact h2
    ·have holds:(Builtin.firstCells 1 len (.slice (some ⟨b,0,none⟩) len Z)).run P w.drew= .ok (c.toList.take len).toArray w.drew:=by
      refine run_firstCells_some (P:=P) w.drew 1 len ⟨b,0,none⟩ len Z _ (by simp;omega) (λ j v Y=>?_);rw[qS]at Y;split at Y
      ·rw[gg,yU,fE (w:=w.drew) hb];simpa using Y
      ·cases Y
     refine fresh (some ⟨b,0,none⟩) Z (c.toList.take len) H xA (by rw[U];exact holds) (by simp;omega) (λ v hv=>?_) (λ j q v Q Y=>?_)
     ·obtain⟨j,Y⟩:=qA (gT hv);exact hone j v (by simpa using Y)
     ·rw[qS]at Y;split at Y
      ·exact hat j q v Q (by simpa using Y)
      ·cases Y
 ·exact hc.elim
end hold
section hold
variable {P:Program}{B X:Nat->Prop}{w0:W0}{w:World}{n:Nat}{S:St}{a:Act}{ι:Nat->Option Nat}{dst:Option Nat}{ty:TypeId}{pos:String}{af:Array Edge}{gd:Option (Nat×Bool)}
theorem Tk {T:List (Nat×List Int)}{Y:Nat->Prop}(h:iO T w Y){g i:Nat}(U:i<(lu T g).length):D.At w Y (.pt ((lu T g).drop i)) (.pointer (some ⟨g,i,none⟩)):=by
 induction T with
 |nil=>simp[lu]at U
 |cons q T L=>
  obtain⟨O,l⟩:=q;simp only[lu]at U|-;by_cases c:O=g
  ·subst c;rw[if_pos rfl];obtain⟨K,N,M⟩:=h (O,l) xB;have V:∀(j:Nat) c,((l.map λ v=>D.sc (.int .u8 v)).drop i)[j]? =some c->∃v,l[i+j]? =some v/\c= .sc (.int .u8 v):=by
    intro j c Z;rw[gC,uJ]at Z;cases R:l[i+j]? with
    |none=>rw[R]at Z;cases Z
    |some v=>rw[R]at Z;cases Z;exact⟨v,rfl,rfl⟩
   refine .pt _ O i (λ j=> .int .u8 ((l[i+j]?).getD 0)) (λ j c Z=>?_) (λ j c Z=>?_)
   ·obtain⟨v,Q,rfl⟩:=V j c Z;simp only[Q,yN];exact⟨M _ v Q,rfl,N⟩
   ·obtain⟨v,Q,rfl⟩:=V j c Z;simp only[Q,yN];exact .sc _ rfl
  ·rw[if_neg c]at U|-;exact L (λ q R=>h q (uP _ R)) U
theorem Se (G:w0.tabs=tabs P)(Y:Hold B X w0 n S a w ι){T:TypeId}{g:Nat}{i:Operand}(N:∀t,dst=some t->t<n)(L:aZ i=true)
  (h:(nQ (tabs P) g (tyi P T) (P.cellsOf (tyi P T).elem) (S.ev i)).1):bC P B X w0 n ⟨dst, .indexAddr T (.global g) i,ty,pos,af,gd⟩ (S.app dst (nQ (tabs P) g (tyi P T) (P.cellsOf (tyi P T).elem) (S.ev i)).2) a w:=by
 have U:=Y.ev L;generalize S.ev i=q at h U;unfold nQ at h|-;split at h
 ·rename_i m;obtain⟨K,M,Q,I,J⟩:=h;simp only;rw[bH];have F:=EY K;have R:=m8 U;have Z:=oT (P:=P) (u:=(tyi P T).elem) xA w;have O:=Tk (w:=w) (G▸Y.tabs) J;refine Y.goes (v:= .pointer (some ⟨g,m.toNat,none⟩)) N ?_ (.d _ _ O);have H:m<(tyi P T).len:=xA;have V:a.eval (.global g)= .pointer (some ⟨g,0,none⟩):=rfl;simp[execOp,Instr.indexAt,V,R,asIntOf,run_underlying F,Z,Q,H,gg,Instr.sureAddr,M]
 ·exact h.elim
theorem Sg (U:Hold B X w0 n S a w ι){T:TypeId}{x:Operand}(Q:∀t,dst=some t->t<n)(L:aZ x=true)
  (h:(nR (tyi P T) T (S.ev x)).1):bC P B X w0 n ⟨dst, .makeInterface T x,ty,pos,af,gd⟩ (S.app dst (nR (tyi P T) T (S.ev x)).2) a w:=by
 have V:=U.ev L;generalize S.ev x=p at h V;unfold nR at h|-;split at h
 ·rename_i m;simp only;rw[bH];have N:=cP V;refine U.goes (v:= .iface T (.int .i64 m)) Q ?_ (.d _ _ (.sc _ rfl));cases Z:P.underlying T with
  |none=>simp[tyi,Z]at h
  |some d=>cases d<;>simp[tyi,Z]at h<;>simp[execOp,Instr.makeInterface,N,run_underlying Z]
 ·rename_i o s i c;obtain⟨O,M⟩:=h;simp only;rw[bH];generalize Y:a.eval x=K at V;cases V with
  |ptr _ _ _ _ b R=>
   rw[M]at Y;refine U.goes (v:= .iface T (.pointer (some ⟨b,0,none⟩))) Q ?_ (.ifp T o b R);cases Z:P.underlying T with
   |none=>simp[tyi,Z]at O
   |some d=>cases d<;>simp[tyi,Z]at O<;>simp[execOp,Instr.makeInterface,Y,run_underlying Z]
 ·exact h.elim
theorem R2 (R:Hold B X w0 n S a w ι){T U:TypeId}{x:Operand}(N:∀t,dst=some t->t<n)(M:aZ x=true)
  (Z:(nK (tyi P T) T (S.ev x)).1):bC P B X w0 n ⟨dst, .typeAssert x U T false,ty,pos,af,gd⟩ (S.app dst (nK (tyi P T) T (S.ev x)).2) a w:=by
 have Y:=R.ev M;generalize S.ev x=p at Z Y;unfold nK at Z|-;split at Z
 ·rename_i t m;obtain⟨Q,rfl⟩:=Z;simp only;rw[bH];have O:a.eval x= .iface t (.int .i64 m):=by
   generalize a.eval x=v at Y;cases Y with
   |d _ _ h=>cases h;rfl
  refine R.goes (v:= .int .i64 m) N ?_ (.d _ _ (.sc _ rfl));cases V:P.underlying t with
  |none=>simp[tyi,V]at Q
  |some d=>cases d<;>simp[tyi,V]at Q<;>simp[execOp,Instr.typeAssert,O,run_underlying V]
 ·exact Z.elim
theorem Sb (M:Hold B X w0 n S a w ι){t u:TypeId}{s x:Operand}(hd:∀t,dst=some t->t<n)(hs:aZ s=true)(hx:aZ x=true)
  (O:(qc S.objs (tyi P t) (tyi P (tyi P t).elem) (S.ev s) (S.ev x)).1):
  bC P B X w0 n ⟨dst, .call ⟨.builtin .copy,#[s,x],#[t,u]⟩,ty,pos,af,gd⟩ (S.app dst (qc S.objs (tyi P t) (tyi P (tyi P t).elem) (S.ev s) (S.ev x)).2) a w:=by
 have A:=M.ev hs;have hpx:=M.ev hx;generalize S.ev s=p at O A;generalize hva:a.eval s=va at A;generalize hxe:S.ev x=q at O hpx;unfold qc at O|-;cases hxs:dB S.objs q with
 |none=>rw[hxs]at O;exact O.elim
 |some xs=>
  rw[hxs]at O;cases p<;>try (exact O.elim)
  rename_i o Q off len cap;dsimp only at O|-;cases N:S.objs o with
  |row sz' l=>
   rw[N]at O;simp only at O|-;obtain⟨hk,hz,h1,h2,h3,h4,E,C⟩:=O;subst h2;subst h3;obtain⟨ie,z,hie,hiz,hzs,hisz,hiby,hz1,J,hzz,_⟩:=qq hz;have hu:=gy hk;obtain⟨xb,xc,aJ,hxv,hnl,hf,hn1,hnat⟩:=yg (P:=P) M hpx hxs C;have hoo:=M.objs o;rw[N]at hoo;have G:∀(Z:Option Addr) (R:Nat) (w':World),a.eval s= .slice Z len R->(match Z with|some ad=>(storeCells ad aJ 0).run P w= .ok () w'|none=>w'=w)->
     (execOp a.eval ⟨dst, .call ⟨.builtin .copy,#[s,x],#[t,u]⟩,ty,pos,af,gd⟩).run P w= .ok (.value (.int .i64 len)) w':=by
    intro Z R w' hv V;rw[hxv]at hf;have I:(sizeOf (tyi P t).elem).run P w= .ok Q w:=by
     simp[sizeOf,typeInfo,hie,hisz,h1]
    cases Z with
    |none=>
     simp only at V;subst V;simp[execOp,resolve,invoke,builtin,Builtin.copy_,hv,hxv,run_underlying hu,Builtin.lenOf,I,E,goInt];rw[E]at hf;simp[hf]
    |some ad=>
     simp only at V;simp[execOp,resolve,invoke,builtin,Builtin.copy_,hv,hxv,run_underlying hu,Builtin.lenOf,I,E,goInt];rw[E]at hf;simp[hf,V]
   have app:∀(o':Nat) (ob:Ob) (rd:List Nat),S.app dst {val:= .int len,wr:=[(o',ob)],rd:=rd}=({env:=S.env,objs:=upd o' ob S.objs}:St).put dst (.int len):=by
    intro o' ob rd;cases dst<;>rfl
   rw[app];cases A with
   |ref0 _ _ _ Z=>
    have hl0:l=[]:=qT h4.symm;have hx0:xs=[]:=qT E;subst hl0;subst hx0;have hn0:aJ=[]:=qT (by simpa using hnl);subst hn0;have e:upd o (.row Q []) S.objs=S.objs:=by
     funext k
     simp only[upd];split
     ·rename_i hk;rw[hk,N]
     ·rfl
    rw[e];refine M.goes hd (G Z 0 w hva ?_) (.d _ _ (.sc _ rfl));cases Z<;>rfl
   |ref _ _ _ _ _ R b U hl hcc hm hss=>
    cases hoo with
    |row0 _ hι0=>rw[hι0]at U;cases U
    |row _ _ b' c T F hb I hcl' H h=>
     rw[U]at F;cases F;have hnl':aJ.length=l.length*Q:=by rw[hnl,E,h4]
     have Y:0*Q+aJ.length<=c.size:=xA;have V:=run_storeCells_at P b (0*Q) T aJ 0 c w hb xA hn1;rw[gX]at V;have h1':=M.change (some b) o (.row Q xs) ι (w.setRow b (c.toList.take (0*Q)++aJ++c.toList.drop (0*Q+aJ.length)).toArray) rfl rfl rfl xB (λ _ _=>rfl) (λ _ h=>h)
      (λ b' L=>by
       cases L;exact⟨⟨o,U⟩,λ o' J hg ho'=>J (M.inj o' o b hg (by rw[N];simp) ho' U),by simp only[bsz,hb,setRow_heap w b c _ T (0,0) hb,f4 c _ aJ Y]⟩)
      (λ b' _ J=>setRow_other w b b' _ (λ he=>J (by rw[he])))
      (λ b' L=>⟨.inl ⟨L,by rw[N];simp⟩,by rw[un];exact(M.free o b' L).2⟩) ?_
     ·exact⟨_,_,ι, .inl (G (some ⟨b,0*Q,none⟩) R _ hva V),h1'.put hd (.d _ _ (.sc _ rfl))⟩
     ·refine .row Q xs b _ T U (setRow_heap w b c _ T (0,0) hb) ?_ C (λ j v K=>?_) (λ i d j e v hi K hv=>?_)
      ·rw[f4 _ _ _ Y,E,h4];exact I
      ·rw[lC _ _ _ Y]at K;split at K
       ·exact H j v K
       ·split at K
        ·exact hn1 v (uA K)
        ·exact H j v K
      ·have hil:=(uB.1 hi).1;have hjs:j<Q:=by rw[<-C d (uA hi)];exact(uB.1 K).1
       have hlt:i*Q+j<aJ.length:=by
        have:(i+1)*Q<=xs.length*Q:=yR _ xA;rw[qN]at this;omega
       rw[lC _ _ _ Y,if_neg xA,if_pos xA]at hv;refine D.At.store M U hb (f4 _ _ _ Y) (hnat i d j e v hi K ?_);rw[<-hv];congr 1;omega
  |_=>rw[N]at O;exact O.elim
end hold
section hold
variable {P:Program}{B X:Nat->Prop}{w0:W0}{w:World}{n:Nat}{S:St}{a:Act}{ι:Nat->Option Nat}{dst:Option Nat}{ty:TypeId}{pos:String}{af:Array Edge}{gd:Option (Nat×Bool)}
theorem R9 (Z:Hold B X w0 n S a w ι){b:Builtin}{as:Array Operand}{R:Array TypeId}(Q:∀t,dst=some t->t<n)(V:∀x∈as.toList,aZ x=true)
  (Y:(jp P S.objs dst b R.toList (as.toList.map S.ev)).1):
  bC P B X w0 n ⟨dst, .call ⟨.builtin b,as,R⟩,ty,pos,af,gd⟩ (S.app dst (jp P S.objs dst b R.toList (as.toList.map S.ev)).2) a w:=by
 obtain⟨as⟩:=as;obtain⟨R⟩:=R;simp only at V Y|-;unfold jp at Y|-;split at Y
 ·
  rename_i t x h;obtain⟨y,rfl,rfl⟩:∃y,as=[y]/\S.ev y=x:=by
   match as,h with
   |[y],h=>exact⟨y,rfl,by simpa using h⟩
  have G:=Z.ev (V y xB);cases J:fY (S.ev y)with
  |none=>
   rw[J]at Y;simp only[nT]at Y|-;split at Y
   ·rename_i o I;split at Y
    ·rename_i l H;exact Si Z Q (V y xB) I H Y
    ·exact Y.elim
   ·rename_i s I;rw[I]at G;simp only;rw[bH];refine Z.goes (v:= .int .i64 s.size) Q ?_ (.d _ _ (.sc _ rfl));simp[execOp,resolve,invoke,builtin,rm G,Builtin.len_,run_underlying (EZ Y),goInt]
   ·exact Y.elim
  |some m=>
   rw[J]at Y;simp only;rw[bH];obtain⟨C,A,E⟩:=Nn G J;have F:=gy Y;refine Z.goes (v:= .int .i64 m) Q ?_ (.d _ _ (.sc _ rfl));simp[execOp,resolve,invoke,builtin,E,Builtin.len_,run_underlying F,goInt]
 ·
  rename_i p q h;obtain⟨y,z,rfl,O,N⟩:∃y z,as=[y,z]/\S.ev y= .d (.sc (.int .i64 p))/\S.ev z= .d (.sc (.int .i64 q)):=by
   match as,h with
   |[y,z],h=>simp at h;exact⟨y,z,rfl,h.1,h.2⟩
   |[],h=>simp at h
   |[_],h=>simp at h
   |_::_::_::_,h=>simp at h
  have U:=Z.ev (V y xB);have T:=Z.ev (V z xB);rw[O]at U;rw[N]at T;simp only;rw[bH];refine Z.goes (v:= .int .i64 (if q<p then q else p)) Q ?_ (.d _ _ (.sc _ rfl));simp[execOp,resolve,invoke,builtin,cP U,cP T,Builtin.min_,Builtin.min2]
 ·
  rename_i p q h;obtain⟨y,z,rfl,O,N⟩:∃y z,as=[y,z]/\S.ev y= .d (.sc (.int .i64 p))/\S.ev z= .d (.sc (.int .i64 q)):=by
   match as,h with
   |[y,z],h=>simp at h;exact⟨y,z,rfl,h.1,h.2⟩
   |[],h=>simp at h
   |[_],h=>simp at h
   |_::_::_::_,h=>simp at h
  have U:=Z.ev (V y xB);have T:=Z.ev (V z xB);rw[O]at U;rw[N]at T;simp only;rw[bH];refine Z.goes (v:= .int .i64 (if p<q then q else p)) Q ?_ (.d _ _ (.sc _ rfl));simp[execOp,resolve,invoke,builtin,cP U,cP T,Builtin.max_,Builtin.max2]
 ·
  rename_i p q r h;obtain⟨y,z,x,rfl,O,N,K⟩:∃y z x,as=[y,z,x]/\S.ev y= .d (.sc (.int .i64 p))/\S.ev z= .d (.sc (.int .i64 q))/\S.ev x= .d (.sc (.int .i64 r)):=by
   match as,h with
   |[y,z,x],h=>simp at h;exact⟨y,z,x,rfl,h.1,h.2.1,h.2.2⟩
   |[],h=>simp at h
   |[_],h=>simp at h
   |[_,_],h=>simp at h
   |_::_::_::_::_,h=>simp at h
  have U:=Z.ev (V y xB);have T:=Z.ev (V z xB);have L:=Z.ev (V x xB);rw[O]at U;rw[N]at T;rw[K]at L;simp only;rw[bH];refine Z.goes (v:= .int .i64 (if r<(if q<p then q else p)then r else(if q<p then q else p))) Q ?_ (.d _ _ (.sc _ rfl));simp[execOp,resolve,invoke,builtin,cP U,cP T,cP L,Builtin.min_,Builtin.min2]
 ·
  rename_i p q r h;obtain⟨y,z,x,rfl,O,N,K⟩:∃y z x,as=[y,z,x]/\S.ev y= .d (.sc (.int .i64 p))/\S.ev z= .d (.sc (.int .i64 q))/\S.ev x= .d (.sc (.int .i64 r)):=by
   match as,h with
   |[y,z,x],h=>simp at h;exact⟨y,z,x,rfl,h.1,h.2.1,h.2.2⟩
   |[],h=>simp at h
   |[_],h=>simp at h
   |[_,_],h=>simp at h
   |_::_::_::_::_,h=>simp at h
  have U:=Z.ev (V y xB);have T:=Z.ev (V z xB);have L:=Z.ev (V x xB);rw[O]at U;rw[N]at T;rw[K]at L;simp only;rw[bH];refine Z.goes (v:= .int .i64 (if(if p<q then q else p)<r then r else(if p<q then q else p))) Q ?_ (.d _ _ (.sc _ rfl));simp[execOp,resolve,invoke,builtin,cP U,cP T,cP L,Builtin.max_,Builtin.max2]
 ·
  rename_i t u s x h;obtain⟨y,z,rfl,rfl,rfl⟩:∃y z,as=[y,z]/\S.ev y=s/\S.ev z=x:=by
   match as,h with
   |[y,z],h=>simp at h;exact⟨y,z,rfl,h.1,h.2⟩
  cases M:ip S.objs (S.ev z)with
  |none=>
   rw[M]at Y;exact R0 Z Q (V y xB) (V z xB) Y
  |some q=>
   rw[M]at Y;exact R1 Z Q (V y xB) (V z xB) M Y
 ·
  rename_i t u s x h;obtain⟨y,z,rfl,rfl,rfl⟩:∃y z,as=[y,z]/\S.ev y=s/\S.ev z=x:=by
   match as,h with
   |[y,z],h=>simp at h;exact⟨y,z,rfl,h.1,h.2⟩
  exact Sb Z Q (V y xB) (V z xB) Y
 ·exact Y.elim
def Oper.plain (n:Nat)(o:Oper):Bool:=
 o.op.operands.toList.all aZ&&(match o.dst with|some t=>decide (t<n)|none=>true)&&(match o.op with| .store .. =>o.dst.isNone| .mapUpdate .. =>o.dst.isNone|_=>true)
theorem Sw (J:w0.tabs=tabs P)(Y:Hold B X w0 n S a w ι){own:Nat->Bool}(o:Oper)(O:Oper.plain n o=true)(Z:(sem P own S.ev S.objs o.dst o.op).1):
  bC P B X w0 n o (S.app o.dst (sem P own S.ev S.objs o.dst o.op).2) a w:=by
 obtain⟨dst,op,ty,pos,af,gd⟩:=o;simp only[Oper.plain,uN,yF]at O;obtain⟨⟨h,Q⟩,R⟩:=O;have V:∀t,dst=some t->t<n:=by rintro t rfl;simpa using Q
 simp only at Z h R|-;cases op with
 |move x=>exact Sr Y V (h x (by simp[Op.operands]))
 |assign x=>exact R3 Y V (h x (by simp[Op.operands]))
 |pick c x y=>exact Su Y V (h c (by simp[Op.operands])) (h x (by simp[Op.operands])) (h y (by simp[Op.operands])) Z
 |alloc T=>exact RZ Y V Z
 |box T x=>exact R5 Y V (h x (by simp[Op.operands])) Z
 |build T G=>exact R6 Y V (λ p K=>h p.2 (by simp only[Op.operands,uR];exact⟨p,K,rfl⟩)) Z
 |buildSlice T m G=>
  have H:∀p∈G.toList,aZ p.2=true:=λ p K=>h p.2 (by simp only[Op.operands,uR];exact⟨p,K,rfl⟩)
  simp only[sem]at Z|-;split at Z
  ·rename_i L;rw[if_pos L];exact R7 Y V H Z
  ·rename_i L;rw[if_neg L];exact R8 Y V H Z
 |load T x=>exact Sj Y V (h x (by simp[Op.operands])) Z
 |store T x y=>exact Sz Y (by simpa using R) (h x (by simp[Op.operands])) (h y (by simp[Op.operands])) Z
 |fieldAddr T x f=>exact Sd Y V (h x (by simp[Op.operands])) Z
 |indexAddr T x i=>
  cases x with
  |global g=>exact Se J Y V (h i (by simp[Op.operands])) Z
  |_=>exact Sh Y V (h _ (by simp[Op.operands])) (h i (by simp[Op.operands])) Z
 |makeInterface T x=>exact Sg Y V (h x (by simp[Op.operands])) Z
 |typeAssert x U T ok=>
  cases ok with
  |false=>exact R2 Y V (h x (by simp[Op.operands])) Z
  |true=>exact Z.elim
 |binOp op T x y E=>exact R4 Y V (h x (by simp[Op.operands])) (h y (by simp[Op.operands])) Z
 |unOp op T x=>exact SB Y V (h x (by simp[Op.operands])) Z
 |convert T U x=>exact Sa Y V (h x (by simp[Op.operands])) Z
 |index T x i=>exact SA Y V (h x (by simp[Op.operands])) (h i (by simp[Op.operands])) Z
 |slice T x q s mx=>exact Sy Y V (h x (by simp[Op.operands])) (λ y N=>h y (by subst N;simp[Op.operands])) (λ y N=>h y (by subst N;simp[Op.operands])) (λ y N=>h y (by subst N;simp[Op.operands])) Z
 |extract x i=>exact HQ Y V (h x (by simp[Op.operands])) Z
 |nilCheck x=>exact Ss Y V (h x (by simp[Op.operands])) Z
 |makeSlice T l c=>exact Sn Y V (h l (by simp[Op.operands])) (h c (by simp[Op.operands])) Z
 |makeFunc fn A C=>exact Sl Y V (λ x I=>h x (by simp only[Op.operands,Array.toList_append,yP];exact .inr I)) Z
 |makeMap T r=>
  cases r with
  |none=>exact Sm Y V Z
  |some _=>exact Z.elim
 |mapUpdate T x y z=>exact Sp Y (by simpa using R) (h x (by simp[Op.operands])) (h y (by simp[Op.operands])) (h z (by simp[Op.operands])) Z
 |lookup T x y ok=>
  cases ok with
  |false=>exact Sk Y V (h x (by simp[Op.operands])) (h y (by simp[Op.operands])) Z
  |true=>exact Z.elim
 |range T x=>exact Sv Y V (h x (by simp[Op.operands])) Z
 |entry x=>exact Sc Y V (h x (by simp[Op.operands])) Z
 |call c=>
  obtain⟨M,as,F⟩:=c;cases M with
  |builtin b=>exact R9 Y V (λ x I=>h x (by simp only[Op.operands,Call.operands];simpa using I)) Z
  |_=>exact Z.elim
 |_=>exact Z.elim
end hold
section
variable {P:Program}{own:Nat->Bool}{objs objs':Nat->Ob}
def oe (P:Program)(own:Nat->Bool)(o:Oper)(S:St)(e:Eff):Prop:=
 match o.op with
 | .call {callee:= .value f,args,.. }=>(∃r,qt P S.objs (S.ev f) (args.toList.map S.ev) r/\e={val:= .d r,rd:=(args.toList.map S.ev).flatMap (PV.refs S.objs 4)})\/
   CallCondM P S.objs (S.ev f) (args.toList.map S.ev) e
 | .call {callee:= .invoke r m,args,.. }=>∃g recv rd Z,Inv P S.objs (S.ev r) m g recv rd/\CallCondM P S.objs (.d (.fn g [])) (recv::args.toList.map S.ev) Z/\e={Z with rd:=rd++Z.rd}
 |op=>(sem P own S.ev S.objs o.dst op).1/\e=(sem P own S.ev S.objs o.dst op).2
def fN (P:Program)(own:Nat->Bool)(all:List Oper)(o:Oper)(S:St)(e:Eff):Prop:=
 match o.guard with
 |none=>oe P own o S e
 |some (j,Z)=>∃g,grd all S j=some g/\if g=some Z then oe P own o S e else e={val:= .und}
def sS (P:Program)(own:Nat->Bool)(all:List Oper):List Oper->St->St->List cH->Prop
 |[],S,X,V=>X=S/\V=[]
 |o::Y,S,X,V=>∃e Z,fN P own all o S e/\sS P own all Y (S.app o.dst e) X Z/\V=e.foot::Z
theorem T8 {o:Oper}{S:St}{V:List cH}{k:St->List cH->Prop}(h:wpOp P own o S V k):∃e,oe P own o S e/\k (S.app o.dst e) (e.foot::V):=by
 obtain⟨U,op,N,pos,Q,O⟩:=o;cases op with
 |call c=>
  obtain⟨X,as,R⟩:=c;cases X with
  |value f=>
   rcases h with⟨r,Z,Y⟩|⟨e,Z,Y⟩
   ·refine⟨_, .inl ⟨r,Z,rfl⟩,?_⟩;rw[pe];exact Y
   ·exact⟨_, .inr Z,Y⟩
  |builtin b=>exact⟨_,⟨h.1,rfl⟩,h.2⟩
  |invoke r m=>
   obtain⟨g,recv,rd,e,T,Z,Y⟩:=h;exact⟨{e with rd:=rd++e.rd},⟨g,recv,rd,e,T,Z,rfl⟩,Y⟩
 |_=>exact⟨_,⟨h.1,rfl⟩,h.2⟩
theorem RA {all:List Oper}:∀(ops:List Oper) (S:St) (T:List cH) (K:St->List cH->Prop),ao P own all ops S T K->∃Y Z,sS P own all ops S Y Z/\K Y (Z.reverse++T):=by
 intro ops
 induction ops with
 |nil=>intro S T K h;exact⟨S,[],⟨rfl,rfl⟩,h⟩
 |cons o X M=>
  intro S T K h;have one:wpOp P own o S T (λ Y Z=>ao P own all X Y Z K)->∃e Y Z,oe P own o S e/\sS P own all X (S.app o.dst e) Y Z/\K Y (Z.reverse++(e.foot::T)):=by
   intro h;obtain⟨e,V,U⟩:=T8 h;obtain⟨Y,Z,R,J⟩:=M _ _ _ U;exact⟨e,Y,Z,V,R,J⟩
  simp only[ao]at h;cases Q:o.guard with
  |none=>
   rw[Q]at h;obtain⟨e,Y,Z,V,U,R⟩:=one h;exact⟨Y,e.foot::Z,⟨e,Z,by simp only[fN,Q];exact V,U,rfl⟩,by simpa using R⟩
  |some q=>
   obtain⟨j,L⟩:=q;rw[Q]at h;simp only at h;cases O:grd all S j with
   |none=>rw[O]at h;exact h.elim
   |some b=>
    rw[O]at h;simp only at h;split at h
    ·rename_i N;obtain⟨e,Y,Z,V,U,R⟩:=one h;exact⟨Y,e.foot::Z,⟨e,Z,by simp only[fN,Q];exact⟨b,O,by rw[if_pos N];exact V⟩,U,rfl⟩,by simpa using R⟩
    ·rename_i N;obtain⟨Y,Z,V,U⟩:=M _ _ _ h;exact⟨Y,([],[])::Z,⟨{val:= .und},Z,by simp only[fN,Q];exact⟨b,O,by rw[if_neg N];trivial⟩,by rw[bH];exact V,rfl⟩,by simpa using U⟩
theorem uz :∀(k:Nat) (p:PV),(∀o∈p.refs objs k,objs' o=objs o)->toD objs' k p=toD objs k p/\p.refs objs' k=p.refs objs k:=by
 intro k
 induction k with
 |zero=>intro p _;exact⟨rfl,rfl⟩
 |succ k L=>
  intro p h;have Y:∀(Z:List PV),(∀o∈Z.flatMap (PV.refs objs k),objs' o=objs o)->Z.mapM (toD objs' k)=Z.mapM (toD objs k)/\Z.flatMap (PV.refs objs' k)=Z.flatMap (PV.refs objs k):=by
   intro Z
   induction Z with
   |nil=>intro _;exact⟨rfl,rfl⟩
   |cons c Z O=>
    intro R;simp only[qM,yP]at R;obtain⟨X,V⟩:=L c (λ o U=>R o (.inl U));obtain⟨N,M⟩:=O (λ o U=>R o (.inr U));simp only[kT,qM,X,V,N,M,Dc]
  cases p with
  |d x=>exact⟨rfl,rfl⟩
  |nilS=>exact⟨rfl,rfl⟩
  |z0=>exact⟨rfl,rfl⟩
  |unk=>exact⟨rfl,rfl⟩
  |und=>exact⟨rfl,rfl⟩
  |ab=>exact⟨rfl,rfl⟩
  |mp _=>exact⟨rfl,rfl⟩
  |ifp _ _=>exact⟨rfl,rfl⟩
  |ref o s S len cap=>
   have Q:o∈(PV.ref o s S len cap).refs objs (k+1):=by simp only[PV.refs];split<;>simp
   have U:=h o Q;simp only[PV.refs,toD]at h|-;rw[U];cases T:objs o with
   |dead=>exact⟨rfl,rfl⟩
   |gone=>exact⟨rfl,rfl⟩
   |row _ _=>exact⟨rfl,rfl⟩
   |imap _=>exact⟨rfl,rfl⟩
   |iter _ _ _=>exact⟨rfl,rfl⟩
   |cells Z=>
    rw[T]at h;simp only at h|-;obtain⟨X,V⟩:=Y ((Z.drop S).take len) (λ o U=>h o (uP _ U));rw[X,V];exact⟨rfl,rfl⟩
  |ptr o s i c=>
   have Q:o∈(PV.ptr o s i c).refs objs (k+1):=by simp only[PV.refs];split<;>simp
   have U:=h o Q;simp only[PV.refs,toD]at h|-;rw[U];cases T:objs o with
   |dead=>exact⟨rfl,rfl⟩
   |gone=>exact⟨rfl,rfl⟩
   |row _ _=>exact⟨rfl,rfl⟩
   |imap _=>exact⟨rfl,rfl⟩
   |iter _ _ _=>exact⟨rfl,rfl⟩
   |cells Z=>
    rw[T]at h;simp only at h|-;obtain⟨X,V⟩:=Y Z (λ o U=>h o (uP _ U));rw[X,V];exact⟨rfl,rfl⟩
  |ag Z=>obtain⟨X,V⟩:=Y Z (by simpa[PV.refs]using h);simp only[toD,PV.refs,X,V,Dc]
  |tup Z=>obtain⟨X,V⟩:=Y Z (by simpa[PV.refs]using h);simp only[toD,PV.refs,X,V,Dc]
  |fn f Z=>obtain⟨X,V⟩:=Y Z (by simpa[PV.refs]using h);simp only[toD,PV.refs,X,V,Dc]
theorem zq (k:Nat):∀(cs:List PV),(∀o∈cs.flatMap (PV.refs objs k),objs' o=objs o)->cs.mapM (toD objs' k)=cs.mapM (toD objs k)/\cs.flatMap (PV.refs objs' k)=cs.flatMap (PV.refs objs k):=by
 intro cs
 induction cs with
 |nil=>intro _;exact⟨rfl,rfl⟩
 |cons c cs Y=>
  intro h;simp only[qM,yP]at h;obtain⟨X,V⟩:=uz k c (λ o Z=>h o (.inl Z));obtain⟨U,T⟩:=Y (λ o Z=>h o (.inr Z));simp only[kT,qM,X,V,U,T,Dc]
def fg (e:Eff)(objs objs':Nat->Ob):Prop:=(∀o∈e.rd,objs' o=objs o)/\∀q∈e.wr,objs' q.1=objs q.1
theorem RN {ty:TyI}{p:PV}(h:fg (fy ty objs p).2 objs objs'):fy ty objs' p=fy ty objs p:=by
 cases p with
 |ptr o s i c=>
  have:objs' o=objs o:=h.1 o (by simp[fy]);simp only[fy,this]
 |d x=>cases x<;>rfl
 |_=>rfl
theorem RT {ty:TyI}{p:PV}{x:Option (List PV)}(h:fg (jv ty objs p x).2 objs objs'):jv ty objs' p x=jv ty objs p x:=by
 cases x with
 |none=>cases p<;>rfl
 |some Z=>
  cases p with
  |ptr o s i c=>
   have:objs' o=objs o:=h.2 (o,_) (by simp only[jv,uX];rfl);simp only[jv,this]
  |_=>rfl
theorem RI {dst:Option Nat}{st T Y:TyI}{s x:PV}(L:(ib objs dst st T Y s x).1)(X:fg (ib objs dst st T Y s x).2 objs objs'):
  ib objs' dst st T Y s x=ib objs dst st T Y s x:=by
 obtain⟨G,O,U,V,S,_,_,_,_,_,Z⟩:=yv L;have Q:∀o∈ew x,objs' o=objs o:=λ o R=>by
  rcases Z with⟨_,_,_,_,_,_,_,_,_,_,h⟩|⟨_,_,h⟩<;>
  ·rw[h]at X;exact X.1 o R
 have M:dB objs' x=dB objs x:=by
  cases x with
  |ref o H I len cap=>simp only[dB,Q o (by simp[ew])]
  |d x=>cases x<;>rfl
  |_=>rfl
 have N:objs' O=objs O:=by
  rcases Z with⟨_,_,_,_,_,_,_,_,_,_,h⟩|⟨_,_,h⟩<;>
  ·rw[h]at X;exact X.2 (O,_) (by simp only[yI];exact .inl rfl)
 subst V;rcases Z with⟨o,H,len,cap,l,rfl,K,_,_,_,h⟩|⟨J,_,h⟩
 ·have R:objs' o=objs o:=by rw[h]at X;exact X.2 (o, .gone) xB
  unfold ib;rw[M,U];simp only[R,N]
 ·unfold ib;rw[M,U];rcases J with rfl|rfl<;>simp only[N]
theorem CZ {x:PV}(h:∀o∈ew x,objs' o=objs o):ip objs' x=ip objs x:=by
 cases x with
 |ref o s Z len cap=>simp only[ip,h o (by simp[ew])]
 |_=>rfl
theorem SR {x p:PV}{Y:Nat}(h:ip objs x=some (p,Y)):ew x=[Y]:=by
 cases x<;>try (simp only[ip]at h;cases h;done)
 rename_i o s X len cap;simp only[ip]at h;cases Z:rV (objs o)with
 |none=>rw[Z]at h;cases h
 |some q=>
  rw[Z]at h;simp only at h;split at h
  ·cases h;rfl
  ·cases h
theorem RH {dst:Option Nat}{st U Z:TyI}{s p:PV}{Y:Nat}(V:(l6 objs dst st U Z s p Y).1)(X:fg (l6 objs dst st U Z s p Y).2 objs objs'):
  l6 objs' dst st U Z s p Y=l6 objs dst st U Z s p Y/\objs' Y=objs Y:=by
 unfold l6 at V X|-;split at V
 ·rename_i t o N Q len cap;cases h:om (objs o)with
  |none=>rw[h]at V;exact V.elim
  |some O=>
   simp only[h]at X;have T:objs' o=objs o:=X.2 (o, .gone) xB;have S:objs' t=objs t:=X.2 (t,_) (by simp only[yI];exact .inl rfl);have R:objs' Y=objs Y:=X.1 Y xB;simp only[T,S,R,h,Dv]
 ·exact V.elim
theorem RJ {dst:Option Nat}{ty Z:TyI}{n:Nat}{Y:List (Nat×PV)}(h:fg (jo objs dst ty Z n Y).2 objs objs'):jo objs' dst ty Z n Y=jo objs dst ty Z n Y:=by
 unfold jo at h|-;split
 ·simp only at h;rename_i t i p;rw[h.2 (t,_) (by simp only[uX];rfl)]
 ·rfl
theorem RP {ty:TyI}{dst:Option Nat}(h:fg (js ty objs dst).2 objs objs'):js ty objs' dst=js ty objs dst:=by
 cases dst with
 |none=>rfl
 |some t=>
  have:objs' t=objs t:=h.2 (t,_) (by simp only[js,uX];rfl);simp only[js,this]
theorem RQ {ty:TyI}{m k v:PV}(h:(jt ty objs m k v).1)(Z:fg (jt ty objs m k v).2 objs objs'):jt ty objs' m k v=jt ty objs m k v:=by
 unfold jt at h Z|-;split at h
 ·rename_i o a c;split at h
  ·rename_i l Y;simp only[Y]at Z|-;have:objs' o=objs o:=Z.2 (o,_) (by simp only[uX];rfl);simp only[this,Y]
  ·exact h.elim
 ·exact h.elim
theorem RO {ty:TyI}{m k:PV}(h:(jr ty objs m k).1)(Z:fg (jr ty objs m k).2 objs objs'):jr ty objs' m k=jr ty objs m k:=by
 unfold jr at h Z|-;split at h
 ·rename_i o a;split at h
  ·rename_i l Y;simp only[Y]at Z|-;have:objs' o=objs o:=Z.1 o xB;simp only[this,Y]
  ·exact h.elim
 ·exact h.elim
theorem RR {ty:TyI}{dst:Option Nat}{m:PV}(h:(ju ty objs dst m).1)(Z:fg (ju ty objs dst m).2 objs objs'):ju ty objs' dst m=ju ty objs dst m:=by
 unfold ju at h Z|-;split at h
 ·rename_i t o;split at h
  ·rename_i l Y;simp only[Y]at Z|-;have X:objs' o=objs o:=Z.1 o xB;have V:objs' t=objs t:=Z.2 (t,_) (by simp only[uX];rfl);simp only[X,V,Y]
  ·exact h.elim
 ·exact h.elim
theorem RL {x:PV}(h:(jq objs x).1)(Z:fg (jq objs x).2 objs objs'):jq objs' x=jq objs x:=by
 unfold jq at h Z|-;split at h
 ·rename_i o S;split at h
  ·rename_i m k s Y;split at h
   ·rename_i l j V X;simp only[Y,V,X]at Z|-;have U:objs' o=objs o:=Z.1 o xB;have T:objs' m=objs m:=Z.1 m xB;simp only[U,T,Y,V,X]
   ·exact h.elim
  ·exact h.elim
 ·exact h.elim
theorem RM {ty:TyI}{x:PV}(h:(nT ty objs x).1)(Z:fg (nT ty objs x).2 objs objs'):nT ty objs' x=nT ty objs x:=by
 unfold nT at h Z|-;split at h
 ·rename_i o;split at h
  ·rename_i l Y;simp only[Y]at Z|-;have:objs' o=objs o:=Z.1 o xB;simp only[this,Y]
  ·exact h.elim
 ·rfl
 ·exact h.elim
theorem RK {dst:Option Nat}{b:Builtin}{Y:List TypeId}{xs:List PV}(h:(jp P objs dst b Y xs).1)(Z:fg (jp P objs dst b Y xs).2 objs objs'):
  jp P objs' dst b Y xs=jp P objs dst b Y xs:=by
 unfold jp at h Z|-;split at h<;>try first|rfl|exact h.elim
 ·rename_i t x;simp only at Z|-;cases L:fY x with
  |some n=>rfl
  |none=>rw[L]at h Z;exact RM h Z
 ·rename_i t u s x;simp only at Z|-;cases S:ip objs x with
  |some q=>
   obtain⟨p,M⟩:=q;rw[S]at h Z;obtain⟨Q,O⟩:=RH h Z;rw[CZ (objs:=objs) (λ o R=>by rw[SR S]at R;rw[uX.1 R];exact O),S];exact Q
  |none=>
   rw[S]at h Z;have N:∀o∈ew x,objs' o=objs o:=λ o R=>by
    obtain⟨_,_,_,_,_,_,_,_,_,_,X⟩:=yv h;rcases X with⟨_,_,_,_,_,_,_,_,_,_,T⟩|⟨_,_,T⟩<;>
    ·rw[T]at Z;exact Z.1 o R
   rw[CZ N,S];exact RI h Z
 ·rename_i t u s x;simp only at Z|-;unfold qc at h Z|-;cases U:dB objs x with
  |none=>rw[U]at h;exact h.elim
  |some xs=>
   rw[U]at h Z;cases s<;>try (exact h.elim)
   rename_i o I K len cap;dsimp only at h Z|-;cases V:objs o with
   |row J l=>
    rw[V]at h Z;have Q:objs' o=objs o:=Z.2 (o,_) (by simp only[uX];rfl);have O:dB objs' x=some xs:=by
     rw[<-U];cases x with
     |ref M _ _ _ _=>simp only[dB,Z.1 M (by simp[ew])]
     |d x=>cases x<;>rfl
     |_=>rfl
    rw[O];dsimp only;rw[Q,V]
   |_=>rw[V]at h;exact h.elim
theorem RU {ev X:Operand->PV}{dst:Option Nat}{op:Op}(h:∀x∈op.operands,X x=ev x)(Y:(sem P own ev objs dst op).1)(Z:fg (sem P own ev objs dst op).2 objs objs'):
  sem P own X objs' dst op=sem P own ev objs dst op:=by
 cases op with
 |move x=>simp only[sem,h x (by simp[Op.operands])]
 |assign x=>simp only[sem,h x (by simp[Op.operands])]
 |pick c a b=>simp only[sem,h c (by simp[Op.operands]),h a (by simp[Op.operands]),h b (by simp[Op.operands])]
 |alloc T=>
  simp only[sem,mI]at Y Z|-;cases dst with
  |none=>rfl
  |some t=>simp only at Z|-;rw[Z.2 (t,_) (by simp only[uX];rfl)]
 |box T x=>
  simp only[sem,mJ,h x (by simp[Op.operands])]at Y Z|-;cases dst with
  |none=>rfl
  |some t=>
   cases I:(ev x).cells? with
   |none=>rfl
   |some cs=>rw[I]at Z;simp only at Z|-;rw[Z.2 (t,_) (by simp only[uX];rfl)]
 |build T O=>
  simp only[sem];have:(O.toList.map λ p=>(p.1,X p.2))=O.toList.map λ p=>(p.1,ev p.2):=yK λ p Q=>by
   rw[h p.2 (by simp only[Op.operands,List.mem_toArray,uR];exact⟨p,Q,rfl⟩)]
  rw[this]
 |buildSlice T n O=>
  have G:(O.toList.map λ p=>(p.1,X p.2))=O.toList.map λ p=>(p.1,ev p.2):=yK λ p Q=>by
   rw[h p.2 (by simp only[Op.operands,List.mem_toArray,uR];exact⟨p,Q,rfl⟩)]
  simp only[sem,G]at Y Z|-;generalize F8 own dst=A at Y Z|-;generalize O.toList.map (λ p=>(p.1,ev p.2))=q at Y Z|-;by_cases M:rC q=true
  ·simp only[if_pos M]at Z|-;exact RJ Z
  simp only[if_neg M]at Y Z|-;unfold l7 at Y Z|-;generalize hl:mm (tyi P (tyi P T).elem).size (List.replicate n (.ofCells (tyi P (tyi P T).elem).agg ((tyi P (tyi P T).elem).zero.map cellD))) (q.map λ p=>(p.1,toD objs 4 p.2))=K at Y Z;have V:(q.map (·.2)).flatMap (PV.refs objs 4)=[]:=by
   cases K with
   |none=>exact Y.elim
   |some l=>
    cases A with
    |true=>cases dst with
           |none=>exact Y.elim
           |some t=>exact Y.2.2.2.1
    |false=>exact Y.2.2.2
  have hq:∀p∈q,toD objs' 4 p.2=toD objs 4 p.2/\p.2.refs objs' 4=p.2.refs objs 4:=λ p Q=>by
   refine uz 4 p.2 (λ o N=>?_);rw[Cd]at V;rw[V p.2 (kQ Q)]at N;cases N
  have S:(q.map λ p=>(p.1,toD objs' 4 p.2))=q.map λ p=>(p.1,toD objs 4 p.2):=yK λ p Q=>by rw[(hq p Q).1]
  have R:(q.map (·.2)).flatMap (PV.refs objs' 4)=(q.map (·.2)).flatMap (PV.refs objs 4):=(zq 4 _ (λ o N=>by rw[V]at N;cases N)).2;rw[S,hl,R];cases K with
  |none=>rfl
  |some l=>
   cases A with
   |true=>cases dst with
          |none=>rfl
          |some t=>simp only[if_true]at Z|-;rw[Z.2 (t,_) (by simp only[uX];rfl)]
   |false=>rfl
 |load T x=>
  simp only[sem,h x (by simp[Op.operands])]at Y Z|-;exact RN Z
 |store T x y=>
  simp only[sem,h x (by simp[Op.operands]),h y (by simp[Op.operands])]at Y Z|-;exact RT Z
 |fieldAddr T x f=>simp only[sem,h x (by simp[Op.operands])]
 |indexAddr T x i=>
  have S:=h x (by simp[Op.operands]);have R:=h i (by simp[Op.operands]);cases x<;>simp only[sem,S,R]
 |makeInterface T x=>simp only[sem,h x (by simp[Op.operands])]
 |typeAssert x U T ok=>
  cases ok with
  |false=>simp only[sem,h x (by simp[Op.operands])]
  |true=>rfl
 |binOp op T x y T'=>simp only[sem,h x (by simp[Op.operands]),h y (by simp[Op.operands])]
 |unOp op T x=>simp only[sem,h x (by simp[Op.operands])]
 |convert T U x=>simp only[sem,h x (by simp[Op.operands])]
 |index T x i=>simp only[sem,h x (by simp[Op.operands]),h i (by simp[Op.operands])]
 |extract x i=>simp only[sem,h x (by simp[Op.operands])]
 |nilCheck x=>simp only[sem,h x (by simp[Op.operands])]
 |slice T x F H E=>
  have s:F.map X=F.map ev:=by cases F with|none=>rfl|some y=>simp only[qB,h y (by simp[Op.operands])]
  have e2:H.map X=H.map ev:=by cases H with|none=>rfl|some y=>simp only[qB,h y (by simp[Op.operands])]
  have e3:E.map X=E.map ev:=by cases E with|none=>rfl|some y=>simp only[qB,h y (by simp[Op.operands])]
  simp only[sem,h x (by simp[Op.operands]),s,e2,e3]
 |makeSlice T l c=>
  simp only[sem,h l (by simp[Op.operands]),h c (by simp[Op.operands])]at Y Z|-;unfold mK at Y Z|-;split at Y
  ·rename_i t n m S R;rw[S,R]at Z;simp only at Z;rw[Z.2 (t,_) (by simp only[uX];rfl)]
  ·exact Y.elim
 |makeFunc fn B C=>
  have S:B.toList.map X=B.toList.map ev:=yK λ x L=>h x (by simp only[Op.operands,Array.mem_append];exact .inl (by simpa using L))
  have R:C.toList.map X=C.toList.map ev:=yK λ x L=>h x (by simp only[Op.operands,Array.mem_append];exact .inr (by simpa using L))
  simp only[sem,S,R]
 |makeMap T r=>
  cases r with
  |none=>exact RP Z
  |some _=>rfl
 |mapUpdate T x y z=>
  simp only[sem,h x (by simp[Op.operands]),h y (by simp[Op.operands]),h z (by simp[Op.operands])]at Y Z|-;exact RQ Y Z
 |lookup T x y ok=>
  cases ok with
  |true=>rfl
  |false=>
   simp only[sem,h x (by simp[Op.operands]),h y (by simp[Op.operands])]at Y Z|-;exact RO Y Z
 |range T x=>
  simp only[sem,h x (by simp[Op.operands])]at Y Z|-;exact RR Y Z
 |entry x=>
  simp only[sem,h x (by simp[Op.operands])]at Y Z|-;exact RL Y Z
 |call c=>
  obtain⟨J,as,tys⟩:=c;cases J with
  |builtin b=>
   have hm:as.toList.map X=as.toList.map ev:=yK λ x L=>h x (by simp only[Op.operands,Call.operands];simpa using L)
   simp only[sem,hm]at Y Z|-;exact RK Y Z
  |_=>rfl
 |_=>rfl
end
end Go.PS
