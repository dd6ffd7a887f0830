/- Made slices and functions. -/
import Derived.Test.YtjjbhjnpeenbkaaGreatDoorPSOps4
import Derived.Laws.MakeOwn
import Derived.Carry
import Derived.Laws.IdiomRangeMap
set_option linter.unusedSimpArgs false
set_option linter.unusedVariables false
set_option maxHeartbeats 16000000
namespace Go.PS
open Go
section hold
variable {P:Program}{B X:Nat->Prop}{w0:W0}{w:World}{n:Nat}{S:St}{a:Act}{ι:Nat->Option Nat}{dst:Option Nat}{ty:TypeId}{pos:String}{af:Array Edge}{gd:Option (Nat×Bool)}
theorem ZD7 (hS:Hold B X w0 n S a w ι){fn:Fn}{fi ca:Array Operand}(hd:∀t,dst=some t->t<n)(hx:∀x∈ca.toList,ZaD x=true)
  (hc:(Zhw fn (fi.toList.map S.ev) (ca.toList.map S.ev)).1):ZaQ P B X w0 n ⟨dst, .makeFunc fn fi ca,ty,pos,af,gd⟩ (S.app dst (Zhw fn (fi.toList.map S.ev) (ca.toList.map S.ev)).2) a w:=by
 unfold Zhw at hc|-;split at hc
 ·rename_i f hfi;have hf0:fi=#[]:=by
   have:fi.toList=[]:=by simpa using hfi
   exact Array.toList_eq_nil_iff.1 this
  subst hf0;simp only;rw[ZaT];refine hS.goes (v:= .func (.func f) #[] (ca.map a.eval)) hd (by simp[execOp,Instr.makeFunc]) (.fn f _ _ (by simp) (λ j p v hj hv=>?_));rw[uI]at hj;rw[kS]at hv;simp only[qS]at hj;cases hq:ca[j]? with
  |none=>rw[hq]at hj;cases hj
  |some x=>
   rw[hq]at hj hv;cases hj;cases hv;exact hS.ev (hx x (by simpa using gY hq))
 ·exact hc.elim
theorem ZD9 (hS:Hold B X w0 n S a w ι){T:TypeId}{l c:Operand}(hd:∀t,dst=some t->t<n)(hl:ZaD l=true)(hcc:ZaD c=true)
  (hc:(ZgJ (tyi P T) (tyi P (tyi P T).elem) S.objs dst (S.ev l) (S.ev c)).1):
  ZaQ P B X w0 n ⟨dst, .makeSlice T l c,ty,pos,af,gd⟩ (S.app dst (ZgJ (tyi P T) (tyi P (tyi P T).elem) S.objs dst (S.ev l) (S.ev c)).2) a w:=by
 have h1:=hS.ev hl;have h2:=hS.ev hcc;unfold ZgJ at hc|-;split at hc
 ·rename_i t m m' e1 e2;obtain⟨hk,hz,rfl,h0,hb,hm,hdead⟩:=hc;rw[e1]at h1;rw[e2]at h2;have v1:=Zbt h1;have v2:=Zbt h2;have hu:=ZdT hk;obtain⟨ie,z,hie,hiz,hzs,hisz,hiby,hz1,hne,hzz,_⟩:=Zjw hz;have hagg:=ZvH hz;generalize he:(tyi P (tyi P T).elem)=ety at*;obtain⟨k,rfl⟩:∃k:Nat,m=k:=⟨m.toNat,by omega⟩;simp only[uM];have hr:=run_make (P:=P) w T (tyi P T).elem ie z hu hie hiz .i64 .i64 (k:Int) (k:Int) h0 (qX _) (by rw[hiby];exact hb) hm;simp only[uM]at hr;have h0':Ziw w (ownX ι X) ety.size (List.replicate k (.ofCells ety.agg (ety.zero.map cellD))) (madeCells z.cells (k*ety.size)):=by
   rw[hzz];exact ZvG hzs hz1 hne hagg
  rw[hisz]at hr;have hz0:Zie ety.zero=true->z.cells.toList=[.slice none 0 0]:=by
   intro h;rw[<-hzz];unfold Zie at h;split at h
   ·assumption
   ·cases h
  have hsz1:Zie ety.zero=true->ety.size=1:=by
   intro h;have:=qU List.length (hz0 h);simp at this;omega
  have hnil:Zie ety.zero=true->∀(j:Nat) v,(madeCells z.cells (k*ety.size))[j]? =some v->v= .slice none 0 0:=by
   intro h j v hj;have hzc:z.cells=#[.slice none 0 0]:=by rw[<-Array.toList_inj];exact hz0 h
   have hm:v∈madeCells z.cells (k*ety.size):=gY hj;have hme:madeCells z.cells (k*ety.size)=(Array.range (k*ety.size)).map (λ k=>z.cells[k%z.cells.size]!):=rfl;rw[hme,hzc]at hm;obtain⟨q,_,rfl⟩:=Array.mem_map.1 hm;have:q%(#[Value.slice none 0 0]:Array Value).size=0:=by simp[Nat.mod_one]
   rw[this];rfl
  generalize hmc:madeCells z.cells (k*ety.size)=arr at*;have hold:∀b,b<w.heap.size->(w.alloc (.cells arr (tyi P T).elem)).heap[b]? =w.heap[b]? :=λ b hb=>heap_alloc_old w _ hb
  have hob:Ob.At (w.alloc (.cells arr (tyi P T).elem)) (upd t (some w.heap.size) ι) X t (if Zie ety.zero=true then .cells (List.replicate k .nilS)else .row ety.size (List.replicate k (.ofCells ety.agg (ety.zero.map cellD)))):=by
   split
   ·rename_i hnz;refine .cells _ w.heap.size arr (tyi P T).elem (if_pos rfl) (heap_alloc_new w _) (by rw[h0'.1,qW,qW,hsz1 hnz,jS];exact uJ _) h0'.2.2.1 λ j p v hj hv=>?_
    rw[hnil hnz j v hv,Aa (uA hj)];exact .nilS
   ·exact .row ety.size _ w.heap.size arr (tyi P T).elem (if_pos rfl) (heap_alloc_new w _) (by rw[h0'.1];exact uJ _) h0'.2.1 h0'.2.2.1 (λ i d j e v hi hj hv=>(h0'.2.2.2 i d j e v hi hj hv).alloc hS hdead hold)
  have h3:=hS.alloc hdead (w.alloc (.cells arr (tyi P T).elem)) rfl rfl rfl (by simp) hold _ hob;have hrun:(execOp a.eval ⟨some t, .makeSlice T l c,ty,pos,af,gd⟩).run P w= .ok (.value (.slice (some ⟨w.heap.size,0,none⟩) k k)) (w.alloc (.cells arr (tyi P T).elem)):=by
   simp only[execOp,v1,v2,Sem.run_bind,hr,Result.andThen_ok,Sem.run_pure]
  refine⟨_,_,upd t (some w.heap.size) ι, .inl hrun,?_⟩;have h4:=h3.put (dst:=some t) (x:= .ref t ety.size 0 k k) (v:= .slice (some ⟨w.heap.size,0*ety.size,none⟩) k k) hd
   (.ref t ety.size 0 k k k w.heap.size (if_pos rfl) (uJ _) (uJ _) (by simp only[maxLen];omega) (by simp only[bsz,heap_alloc_new w,h0'.1,qW,qT]))
  rw[jK]at h4;exact h4
 ·exact hc.elim
end hold
section hold
variable {P:Program}{B X:Nat->Prop}{w0:W0}{w:World}{n:Nat}{S:St}{a:Act}{ι:Nat->Option Nat}{dst:Option Nat}{ty:TypeId}{pos:String}{af:Array Edge}{gd:Option (Nat×Bool)}
theorem ZzX {p:PV}{v:Value}{m:Nat}(h:PV.At w ι X p v)(hl:ZdC p=some m):∃b c,v= .slice b m c:=by
 cases h with
 |d x v h=>
  cases h with
  |slnil base cap=>cases hl;exact⟨_,_,rfl⟩
  |sl=>cases hl;exact⟨_,_,rfl⟩
  |_=>cases hl
 |ref=>cases hl;exact⟨_,_,rfl⟩
 |ref0=>cases hl;exact⟨_,_,rfl⟩
 |nilS=>cases hl;exact⟨_,_,rfl⟩
 |z0=>cases hl;exact⟨_,_,rfl⟩
 |_=>cases hl
def ZkR (P:Program)(w:World)(Y:Nat->Prop)(sz:Nat)(xs:List D)(v:Value):Prop:=
 ∃(base:Option Addr) (cap:Nat) (Zan:List Value),v= .slice base xs.length cap/\Zan.length=xs.length*sz/\(Builtin.firstCells sz xs.length v).run P w= .ok Zan.toArray w/\(∀u∈Zan,u.oneCell'=true)/\
  ∀(i:Nat) d (j:Nat) e u,xs[i]? =some d->d.cells[j]? =some e->Zan[i*sz+j]? =some u->D.At w Y e u
theorem Zjh {Y:Nat->Prop}{sz:Nat}(base:Option Addr)(cap:Nat):ZkR P w Y sz [] (.slice base 0 cap):=by
 refine⟨base,cap,[],rfl,by simp,?_,by simp,by simp⟩;cases base<;>simp[Builtin.firstCells,loadCells,loadCellsFrom]
theorem Zt3 {Y:Nat->Prop}{sz:Nat}{xs:List D}{b off cap:Nat}(_hcl:∀d,d∈xs->d.cells.length=sz)(vals:Nat->Value)
  (hv:∀k,k<xs.length*sz->w.cell? ⟨b,off+k,none⟩=some (vals k)/\(vals k).oneCell'=true)
  (hat:∀(i:Nat) d (j:Nat) e,xs[i]? =some d->d.cells[j]? =some e->D.At w Y e (vals (i*sz+j))):ZkR P w Y sz xs (.slice (some ⟨b,off,none⟩) xs.length cap):=by
 refine⟨_,_,(List.range (xs.length*sz)).map vals,rfl,by simp,?_,?_,?_⟩
 ·refine run_firstCells_some (P:=P) w sz xs.length ⟨b,off,none⟩ _ _ _ (by simp) (λ j v hj=>?_);rw[uI]at hj;rcases uE j (xs.length*sz)with hlt|hge
  ·rw[yR hlt]at hj;cases hj;rw[ZdJ];exact(hv j hlt).1
  ·rw[uN (by simpa using hge)]at hj;cases hj
 ·intro u hu;simp only[uP,uZ]at hu;obtain⟨k,hk,rfl⟩:=hu;exact(hv k hk).2
 ·intro i d j e u hi hj hu;rw[uI]at hu;rcases uE (i*sz+j) (xs.length*sz)with hlt|hge
  ·rw[yR hlt]at hu;cases hu;exact hat i d j e hi hj
  ·rw[uN (by simpa using hge)]at hu;cases hu
theorem ZqU {l:Nat}{k sz:Nat}(h:k<l*sz):k/sz<l/\k%sz<sz/\k/sz*sz+k%sz=k:=by
 have h0:0<sz:=by rcases qM sz with rfl|h0;· simp at h
                  · exact h0
 exact⟨Nat.div_lt_of_lt_mul (by rw[Cp];exact h),De _ h0,by rw[Cp];exact Nat.div_add_mod k sz⟩
theorem ZCs {Y:Nat->Prop}{sz:Nat}{xs:List D}{v:Value}(h:D.At w Y (.sl xs) v)(hcl:∀d,d∈xs->d.cells.length=sz):ZkR P w Y sz xs v:=by
 cases h with
 |slnil base cap=>exact Zjh base cap
 |sl l b off cap sz' hl hc hsz vals hv h=>
  cases xs with
  |nil=>exact Zjh _ _
  |cons x r=>
   have hs:sz'=sz:=by rw[<-hcl x (by simp)];exact(hsz x (by simp)).symm
   subst hs;have cellof:∀k,k<(x::r).length*sz'->∃d c,(x::r)[k/sz']? =some d/\d.cells[k%sz']? =some c:=by
    intro k hk;obtain⟨h1,h2,h3⟩:=ZqU hk;have hd:(x::r)[k/sz']? =some ((x::r)[k/sz']):=uR h1;exact⟨_,_,hd,uR (by rw[hsz _ (jO h1)];exact h2)⟩
   refine Zt3 hcl (λ k=>vals (k/sz') (k%sz')) (λ k hk=>?_) (λ i d j e hi hj=>?_)
   ·obtain⟨d,c,hd,hcc⟩:=cellof k hk;obtain⟨h1,h2,h3⟩:=ZqU hk;have:=hv _ d _ c hd hcc;rw[kX,h3]at this;exact⟨this.1,this.2.1⟩
   ·have hj2:j<sz':=by rw[<-hsz d (uA hi)];exact(uB.1 hj).1
    have h0:0<sz':=by omega
    have e1:(i*sz'+j)/sz'=i:=by rw[Cp,Nat.mul_add_div h0,Nat.div_eq_of_lt hj2];rfl
    have e2:(i*sz'+j)%sz'=j:=by rw[Cp,Nat.mul_add_mod];exact Dc hj2
    simp only[e1,e2];exact h i d j e hi hj
theorem ZoM (hS:Hold B X w0 n S a w ι){p:PV}{v:Value}{xs:List D}{sz:Nat}(hp:PV.At w ι X p v)(hx:ZbS S.objs p=some xs)(hcl:∀d,d∈xs->d.cells.length=sz):
  ZkR P w (ownX ι X) sz xs v:=by
 cases p with
 |d x=>cases x<;>simp[ZbS]at hx;subst hx;cases hp;exact ZCs (by assumption) hcl
 |nilS=>simp[ZbS]at hx;subst hx;cases hp;exact Zjh _ _
 |z0=>simp[ZbS]at hx;subst hx;cases hp;exact Zjh _ _
 |unk=>simp[ZbS]at hx
 |und=>simp[ZbS]at hx
 |ab=>simp[ZbS]at hx
 |mp _=>simp[ZbS]at hx
 |ifp _ _=>simp[ZbS]at hx
 |ref o sz' off len cap=>
  simp only[ZbS]at hx;cases hob:S.objs o with
  |dead=>rw[hob]at hx;cases hx
  |imap _=>rw[hob]at hx;cases hx
  |iter _ _ _=>rw[hob]at hx;cases hx
  |gone=>rw[hob]at hx;cases hx
  |cells cs=>rw[hob]at hx;cases hx
  |row sz'' l=>
   rw[hob]at hx;simp only at hx;split at hx
   ·rename_i hcond;obtain⟨rfl,hle⟩:=hcond;simp only[yI]at hx;subst hx;have hlen:((l.drop off).take len).length=len:=by simp;omega
    cases hp with
    |ref0=>simp only[yX];exact Zjh _ _
    |ref _ _ _ _ _ capr b hι hl hc hm hs=>
     by_cases hz:len=0
     ·subst hz;simp only[yX];exact Zjh _ _
     have hoo:=hS.objs o;rw[hob]at hoo;cases hoo with
     |row0 _ h=>rw[h]at hι;cases hι
     |row _ _ b' c T hι' hb hsz hcl' hone h=>
      rw[hι]at hι';cases hι';have hmem:∃d,d∈(l.drop off).take len:=by
       have:0<((l.drop off).take len).length:=by omega
       exact⟨_,jO this⟩
      obtain⟨d0,hd0⟩:=hmem;have hs:sz'=sz:=by
       rw[<-hcl d0 hd0,hcl' d0 (kY (gT hd0))]
      subst hs;have hroom:(off+len)*sz'<=c.size:=gP (yO _ hle) hsz;have hr:=Zt3 (P:=P) (w:=w) (Y:=ownX ι X) (b:=b) (off:=off*sz') (cap:=capr) hcl (λ k=>c.getD (off*sz'+k) undef) (λ k hk=>by
       rw[hlen]at hk;have hlt:off*sz'+k<c.size:=by rw[qJ]at hroom;omega
       have hg:c[off*sz'+k]? =some c[off*sz'+k]:=uU hlt;have hgd:c.getD (off*sz'+k) undef=c[off*sz'+k]:=by simp[Array.getD,hlt]
       simp only[hgd];exact⟨by rw[Zdg hb,hg],hone _ _ hg⟩) (λ i d j e hi hj=>by
       rw[qH]at hi;split at hi
       ·rename_i hil;rw[gA]at hi;have hjs:j<sz':=by rw[<-hcl' d (uA hi)];exact(uB.1 hj).1
        have hlt:(off+i)*sz'+j<c.size:=by
         have:(off+i+1)*sz'<=(off+len)*sz':=yO _ (by omega);rw[qJ]at this;omega
        have hg:c[(off+i)*sz'+j]? =some c[(off+i)*sz'+j]:=uU hlt;have heq:off*sz'+(i*sz'+j)=(off+i)*sz'+j:=by rw[qJ];omega
        simp only[heq];have hgd:c.getD ((off+i)*sz'+j) undef=c[(off+i)*sz'+j]:=by simp[Array.getD,hlt]
        rw[hgd];exact h (off+i) d j e _ hi hj hg
       ·cases hi)
      rw[hlen]at hr;exact hr
   ·cases hx
 |ptr o sz' i c=>simp[ZbS]at hx
 |ag cs=>simp[ZbS]at hx
 |tup cs=>simp[ZbS]at hx
 |fn f cs=>simp[ZbS]at hx
end hold
section hold
variable {P:Program}{B X:Nat->Prop}{w0:W0}{w:World}{n:Nat}{S:St}{a:Act}{ι:Nat->Option Nat}{dst:Option Nat}{ty:TypeId}{pos:String}{af:Array Edge}{gd:Option (Nat×Bool)}
theorem Zul {t u ty' e e':TypeId}{ie:TypeInfo}(ht:P.underlying t=some (.slice e))(hu:P.underlying u=some (.slice e'))(hi:P.info? e=some ie)
  {g len cap m:Nat}{cur:Array Value}{T:TypeId}(hg:w.heap[g]? =some (.cells cur T (0,0))){x:Value}{Zan:List Value}
  (hx:∃b c,x= .slice b m c)(hf:(Builtin.firstCells ie.size m x).run P w= .ok Zan.toArray w)(_hnl:Zan.length=m*ie.size)(h1:∀v∈Zan,v.oneCell'=true)
  (hroom:len+m<=cap)(hfit:len*ie.size+Zan.length<=cur.size):
  (Builtin.append_ #[t,u] ty' #[.slice (some ⟨g,0,none⟩) len cap,x]).run P w=
   .ok (.slice (some ⟨g,0,none⟩) (len+m) cap) (w.setRow g (cur.toList.take (len*ie.size)++Zan++cur.toList.drop (len*ie.size+Zan.length)).toArray):=by
 obtain⟨b,c,rfl⟩:=hx;have hst:=run_storeCells_at P g (len*ie.size) T Zan 0 cur w hg (by omega) h1;simp only[gX]at hst;simp[Builtin.append_,run_underlying ht,run_underlying hu,sizeOf,typeInfo,hi,Builtin.lenOf,hroom,hf,ZdJ,hst]
theorem Zl9 {t u ty' e e':TypeId}{ie:TypeInfo}{z:Value}(ht:P.underlying t=some (.slice e))(hu:P.underlying u=some (.slice e'))(hi:P.info? e=some ie)(hz:ie.zero=some z)
  {base:Option Addr}{len cap m:Nat}{x:Value}{olds Zan:List Value}
  (hx:∃b c,x= .slice b m c)(ho:(Builtin.firstCells ie.size len (.slice base len cap)).run P w.drew= .ok olds.toArray w.drew)(hf:(Builtin.firstCells ie.size m x).run P w.drew= .ok Zan.toArray w.drew)
  (hgr:cap<len+m)(hsm:len+m<=1099511627776)(hby:ie.bytes<=128):
  (Builtin.append_ #[t,u] ty' #[.slice base len cap,x]).run P w=
   .ok (.slice (some ⟨w.heap.size,0,none⟩) (len+m) (grownCap w (len+m) cap e)) (w.drew.alloc (.cells (olds.toArray++Zan.toArray++Builtin.zeroCells z.cells (grownCap w (len+m) cap e-(len+m))) e)):=by
 obtain⟨b,c,rfl⟩:=hx;have hfit:Builtin.nextslicecap (len+m) cap*ie.bytes<=281474976710656:=growslice_fits hgr (by
  have:(len+m)*ie.bytes<=1099511627776*128:=kZ hsm hby;omega)
 have h63:¬(((len+m:Nat):Int)>IntKind.i64.max/\(False\/ie.bytes=0)):=by
  have:IntKind.i64.max=9223372036854775807:=by decide
  rw[this];omega
 have hroom:¬(len+m<=cap):=by omega
 have h48:¬(281474976710656<Builtin.nextslicecap (len+m) cap*ie.bytes):=by omega
 have hmax:IntKind.i64.max=9223372036854775807:=by decide
 simp[Builtin.append_,run_underlying ht,run_underlying hu,sizeOf,typeInfo,zeroValue,hi,hz,Builtin.lenOf,hroom,h48,Question.forced,ho,hf,newRow,grownCap,hmax];rw[if_neg (by omega)];simp;rw[<-zF,Array.append_assoc]
theorem ZoX {objs:Nat->Ob}{st xt ety:TyI}{s x:PV}(hc:(ZdY objs dst st xt ety s x).1):
  ∃xs t,ZbS objs x=some xs/\dst=some t/\objs t= .dead/\st.kind=1/\xt.kind=1/\ety.zok=true/\ety.bytes<=128/\(∀d,d∈xs->d.cells.length=ety.size)/\
   ((∃o sz len cap l,s= .ref o sz 0 len cap/\objs o= .row sz l/\sz=ety.size/\len<=l.length/\len+xs.length<=1099511627776/\
     (ZdY objs dst st xt ety s x).2={val:= .ref t sz 0 (len+xs.length) (len+xs.length),wr:=[(t, .row sz (l.take len++xs)),(o, .gone)],rd:=ZcB x})\/
    ((s= .nilS\/s= .z0)/\xs.length<=1099511627776/\
     (ZdY objs dst st xt ety s x).2={val:= .ref t ety.size 0 xs.length xs.length,wr:=[(t, .row ety.size xs)],rd:=ZcB x})):=by
 unfold ZdY at hc|-;cases hx:ZbS objs x with
 |none=>rw[hx]at hc;exact hc.elim
 |some xs=>
  rw[hx]at hc;cases dst with
  |none=>exact hc.elim
  |some t=>
  cases s<;>try exact hc.elim
  ·rename_i o sz off len cap;simp only at hc|-;cases ho:objs o with
   |dead=>rw[ho]at hc;exact hc.elim
   |gone=>rw[ho]at hc;exact hc.elim
   |imap _=>rw[ho]at hc;exact hc.elim
   |iter _ _ _=>rw[ho]at hc;exact hc.elim
   |cells _=>rw[ho]at hc;exact hc.elim
   |row sz' l=>
    rw[ho]at hc;simp only at hc;obtain⟨h1,h2,h3,h4,h5,h0,h6,h7,h8,h9,h10⟩:=hc;subst h7;subst h8;exact⟨xs,t,rfl,rfl,h0,h1,h2,h3,h4,h5, .inl ⟨o,sz,len,cap,l,rfl,ho,h6,h9,h10,rfl⟩⟩
  ·obtain⟨h1,h2,h3,h4,h5,h0,h6⟩:=hc;exact⟨xs,t,rfl,rfl,h0,h1,h2,h3,h4,h5, .inr ⟨.inl rfl,h6,rfl⟩⟩
  ·obtain⟨h1,h2,h3,h4,h5,h0,h6⟩:=hc;exact⟨xs,t,rfl,rfl,h0,h1,h2,h3,h4,h5, .inr ⟨.inr rfl,h6,rfl⟩⟩
theorem ZvF {z:Array Value}{m:Nat}(h1:∀v∈z.toList,v.oneCell'=true):∀(j:Nat) (v:Value),(Builtin.zeroCells z m)[j]? =some v->v.oneCell'=true:=by
 intro j v hj;unfold Builtin.zeroCells at hj;rw[kS]at hj;cases hr:(Array.range (m*z.size))[j]? with
 |none=>rw[hr]at hj;cases hj
 |some q=>
  rw[hr]at hj;simp only[qB,yI]at hj;subst hj;have hlt:j<m*z.size:=by have:=(gB.1 hr).1;simpa using this
  have h0:0<z.size:=by rcases qM z.size with h|h
                       · rw[h]at hlt;simp at hlt
                       · exact h
  have hq:q%z.size<z.size:=De _ h0;rw[getElem!_pos z _ hq];exact h1 _ (by simp)
theorem ZC4 {Y:Nat->Prop}{sz k:Nat}{l xs:List D}{olds Zan:List Value}{zs:Array Value}(hol:olds.length=l.length*sz)(hnl:Zan.length=xs.length*sz)
  (hcl:∀d,d∈l++xs->d.cells.length=sz)(ho1:∀u∈olds,u.oneCell'=true)(hn1:∀u∈Zan,u.oneCell'=true)(hz1:∀(j:Nat) (v:Value),zs[j]? =some v->v.oneCell'=true)
  (hoat:∀(i:Nat) d (j:Nat) e u,l[i]? =some d->d.cells[j]? =some e->olds[i*sz+j]? =some u->D.At w Y e u)
  (hnat:∀(i:Nat) d (j:Nat) e u,xs[i]? =some d->d.cells[j]? =some e->Zan[i*sz+j]? =some u->D.At w Y e u)(hk:zs.size=k):
  (olds.toArray++Zan.toArray++zs).size=(l++xs).length*sz+k/\(∀(j:Nat) (v:Value),(olds.toArray++Zan.toArray++zs)[j]? =some v->v.oneCell'=true)/\
  ∀(i:Nat) d (j:Nat) e v,(l++xs)[i]? =some d->d.cells[j]? =some e->(olds.toArray++Zan.toArray++zs)[i*sz+j]? =some v->D.At w Y e v:=by
 refine⟨by simp[hol,hnl,hk,qJ],λ j v hj=>?_,λ i d j e v hi hj hv=>?_⟩
 ·rw[gM,gM]at hj;split at hj
  ·split at hj
   ·exact ho1 v (uA (by simpa using hj))
   ·exact hn1 v (uA (by simpa using hj))
  ·exact hz1 _ v hj
 ·have hil:=(uB.1 hi).1;have hjs:j<sz:=by rw[<-hcl d (uA hi)];exact(uB.1 hj).1
  simp only[uG]at hil;have hlt:i*sz+j<(l.length+xs.length)*sz:=by
   have:(i+1)*sz<=(l.length+xs.length)*sz:=yO _ hil;rw[qJ]at this;omega
  rw[qJ]at hlt;rw[zM (by simp[hol,hnl];omega),gM]at hv;simp only[kJ,hol,kQ]at hv;rw[jB]at hi;by_cases hc:i<l.length
  ·rw[if_pos hc]at hi;have:(i+1)*sz<=l.length*sz:=yO _ hc;rw[qJ]at this;rw[if_pos (by omega)]at hv;exact hoat i d j e v hi hj hv
  ·rw[if_neg hc]at hi;have:l.length*sz<=i*sz:=yO _ (by omega);rw[if_neg (by omega)]at hv;have heq:i*sz+j-l.length*sz=(i-l.length)*sz+j:=by rw[Nat.sub_mul];omega
   rw[heq]at hv;exact hnat (i-l.length) d j e v hi hj hv
end hold
def ZcK (l:List (Int×Int))(a:Int):Option Nat:=l.findIdx? λ p=>decide (p.1=a)
theorem Zrm (a:Int):∀(l:List (Int×Int)) (es:List MapEntry) (i:Nat),es.map (λ e=>(e.key,e.val))=l.map (λ p=>(Value.int .i64 p.1,Value.int .i64 p.2))->
  Instr.findNow (.int .i64) (.int .i64 a) es i=some ((ZcK l a).map λ j=>(i+j,Value.int .i64 (Zbg l a)))
 |[],[],i,_=>rfl
 |[],_::_,i,h=>by simp at h
 |_::_,[],i,h=>by simp at h
 |(x,y)::l,e::es,i,h=>by
  simp only[uT,List.cons.injEq,Bl]at h;obtain⟨⟨h1,h2⟩,h3⟩:=h;have ih:=Zrm a l es (i+1) h3;have hs:Instr.sameNow (.int .i64) (.int .i64 a) e.key=some (a==x):=by rw[h1];simp[Instr.sameNow]
  rw[Instr.findNow,hs];by_cases c:x=a
  ·subst c;simp[ZcK,jL,Zbg,h2]
  ·have c2:(a==x)=false:=by simpa using λ h=>c h.symm
   rw[c2];simp only[ih,ZcK,jL,Zbg,uV c,qD,jA,if_neg c,Option.map_map]
   congr 2
   funext j
   simp only[Function.comp]
   congr 1
   omega
theorem ZtP {a:Int}(c:Int):∀{l:List (Int×Int)},ZcK l a=none->Zeg l a c=l++[(a,c)]
 |[],_=>rfl
 |(x,y)::l,h=>by
  simp only[ZcK,jL]at h;by_cases hx:x=a
  ·simp[hx]at h
  ·have ih:=ZtP c (l:=l) (by
    simp only[hx,zT,qD,jA]at h;cases hf:ZcK l a with
    |none=>rfl
    |some j=>rw[ZcK]at hf;rw[hf]at h;cases h)
   simp[Zeg,hx,ih]
theorem ZtQ {a:Int}(c:Int):∀{l:List (Int×Int)} {j:Nat},ZcK l a=some j->Zeg l a c=l.set j (a,c)/\j<l.length/\∃y,l[j]? =some (a,y)
 |[],j,h=>by simp[ZcK]at h
 |(x,y)::l,j,h=>by
  simp only[ZcK,jL]at h;by_cases hx:x=a
  ·subst hx;simp only[Ax,if_true,yI]at h;subst h;exact⟨by simp[Zeg],by simp,y,rfl⟩
  ·simp only[hx,zT,qD,jA]at h;cases hf:ZcK l a with
   |none=>rw[ZcK]at hf;rw[hf]at h;cases h
   |some i=>
    rw[ZcK]at hf;rw[hf]at h;cases h;obtain⟨h1,h2,z,h3⟩:=ZtQ c (l:=l) (j:=i) hf;exact⟨by simp[Zeg,hx,h1],by simp;omega,z,by simpa using h3⟩
theorem ZrD {a:Int}:∀{l:List (Int×Int)},ZcK l a=none->Zbg l a=0
 |[],_=>rfl
 |(x,y)::l,h=>by
  simp only[ZcK,jL]at h;by_cases hx:x=a
  ·simp[hx]at h
  ·simp only[hx,zT,qD,jA]at h;rw[Zbg,if_neg hx];refine ZrD ?_;cases hf:ZcK l a with
   |none=>rfl
   |some j=>rw[ZcK]at hf;rw[hf]at h;cases h
section hold
variable {P:Program}{B X:Nat->Prop}{w0:W0}{w:World}{n:Nat}{S:St}{a:Act}{ι:Nat->Option Nat}{dst:Option Nat}{ty:TypeId}{pos:String}{af:Array Edge}{gd:Option (Nat×Bool)}
theorem ZoT {k:TypeId}(hk:P.underlying k=some (.int .i64))(x:Int)(e:Bool):(Instr.checkKey e 10000 k (.int .i64 x)).run P w= .ok () w:=
 MapKept.run_checkKey hk (by simp[MapKept.IsKey]) e 9999
theorem Zup {k:TypeId}(hk:P.underlying k=some (.int .i64)){x:Int}{l:List (Int×Int)}{es:List MapEntry}(h:es.map (λ e=>(e.key,e.val))=l.map (λ p=>(Value.int .i64 p.1,Value.int .i64 p.2))):
  (Instr.findKey k (.int .i64 x) es).run P w= .ok ((ZcK l x).map λ j=>(j,Value.int .i64 (Zbg l x))) w:=by
 have:=Zrm x l es 0 h;simp only[qT]at this;exact MapKept.run_findKey hk this
theorem ZD8 (hS:Hold B X w0 n S a w ι){T:TypeId}(hd:∀t,dst=some t->t<n)(hc:(ZeL (tyi P T) S.objs dst).1):
  ZaQ P B X w0 n ⟨dst, .makeMap T none,ty,pos,af,gd⟩ (S.app dst (ZeL (tyi P T) S.objs dst).2) a w:=by
 unfold ZeL at hc|-;cases dst with
 |none=>exact hc.elim
 |some t=>
  obtain⟨_,hdead⟩:=hc;have hold:∀b,b<w.heap.size->(w.alloc (.map #[] 0)).heap[b]? =w.heap[b]? :=λ b hb=>(MapKept.heap_alloc w _).2 b hb
  have hob:Ob.At (w.alloc (.map #[] 0)) (upd t (some w.heap.size) ι) X t (.imap []):= .imap [] w.heap.size #[] 0 (if_pos rfl) (MapKept.heap_alloc w _).1 ⟨rfl,rfl,rfl⟩;have h1:=hS.alloc hdead (w.alloc (.map #[] 0)) rfl rfl rfl (by simp) hold _ hob;refine⟨_,_,upd t (some w.heap.size) ι, .inl (by simp only[execOp];rfl),?_⟩;exact h1.put (dst:=some t) (x:= .mp t) (v:= .map (some w.heap.size)) (λ u hu=>by cases hu;exact hd t rfl) (.mp t w.heap.size (if_pos rfl))
theorem ZlN {o:Nat}{v:Value}(h:PV.At w ι X (.mp o) v):∃b,v= .map (some b)/\ι o=some b:=by
 cases h with
 |mp _ b hι=>exact⟨b,rfl,hι⟩
theorem Zi3 (hS:Hold B X w0 n S a w ι){o b:Nat}{l:List (Int×Int)}(ho:S.objs o= .imap l)(hι:ι o=some b):
  ∃es clock,w.heap[b]? =some (.map es clock)/\EntOk es clock l:=by
 have:=hS.objs o;rw[ho]at this;cases this with
 |imap _ b' es clock hι' hb he=>
  rw[hι]at hι';cases hι';exact⟨es,clock,hb,he⟩
theorem ZD6 (hS:Hold B X w0 n S a w ι){T:TypeId}{x y:Operand}(hd:∀t,dst=some t->t<n)(hx:ZaD x=true)(hy:ZaD y=true)(hc:(ZeK (tyi P T) S.objs (S.ev x) (S.ev y)).1):
  ZaQ P B X w0 n ⟨dst, .lookup T x y false,ty,pos,af,gd⟩ (S.app dst (ZeK (tyi P T) S.objs (S.ev x) (S.ev y)).2) a w:=by
 have hp:=hS.ev hx;have hq:=hS.ev hy;generalize S.ev x=p at hc hp|-;generalize S.ev y=q at hc hq|-;unfold ZeK at hc|-;split at hc
 ·rename_i o k;split at hc
  ·rename_i l hl;obtain⟨ke,e,i,hu,hk,hi,hz⟩:=ZlC hc;obtain⟨b,hv,hι⟩:=ZlN hp;obtain⟨es,clock,hb,he⟩:=Zi3 hS hl hι;have hkv:=Zbt hq;have hf:=Zup (w:=w) (P:=P) hk (x:=k) he.kv;simp only;rw[ZiC];refine hS.goes hd (v:= .int .i64 (Zbg l k)) ?_ (.d _ _ (.sc _ rfl));simp only[execOp,hv,hkv,Instr.lookup,Sem.run_bind,run_underlying hu,Result.andThen_ok,MapKept.run_getObj_map hb,Sem.run_pure,ZoT hk,hf];cases hj:ZcK l k with
   |none=>simp[zeroValue,typeInfo,hi,hz,ZrD hj,Result.andThen]
   |some j=>simp[Result.andThen]
  ·exact hc.elim
 ·exact hc.elim
theorem Zqx {b:Nat}{es:Array MapEntry}{clock:Nat}(hb:w.heap[b]? =some (.map es clock)):bsz w b=0:=by simp only[bsz,hb]
theorem ZrH (hS:Hold B X w0 n S a w ι){o:Oper}(hdst:o.dst=none){q b:Nat}{es es':Array MapEntry}{clock clock':Nat}{l l':List (Int×Int)}(hq:S.objs q= .imap l)(hι:ι q=some b)(hb:w.heap[b]? =some (.map es clock))
  (hr:(execOp a.eval o).run P w= .ok .skip (ChangeMaps.setBlock w b (.map es' clock')))
  (he:EntOk es' clock' l'):
  ZaQ P B X w0 n o (S.app o.dst {val:= .unk,wr:=[(q, .imap l')]}) a w:=by
 have hlive:S.objs q≠ .gone:=by rw[hq];exact nofun
 have hnew:=ChangeMaps.heap_setBlock_same hb (.map es' clock');have hoth:∀i,i≠b->(ChangeMaps.setBlock w b (.map es' clock')).heap[i]? =w.heap[i]? :=λ i hi=>ChangeMaps.heap_setBlock_other hb _ hi
 have h1:=hS.change (some b) q (.imap l') ι (ChangeMaps.setBlock w b (.map es' clock')) rfl rfl rfl (by simp[ChangeMaps.setBlock]) (λ _ _=>rfl) (λ _ h=>h)
  (λ b' hb'=>by
   cases hb';exact⟨⟨q,hι⟩,λ o' hne hg ho'=>hne (hS.inj o' q b hg hlive ho' hι),by rw[Zqx hb,Zqx hnew]⟩)
  (λ b' _ hne=>hoth b' (λ he=>hne (by rw[he])))
  (λ b' hb'=>⟨.inl ⟨hb',hlive⟩,by simp only[ChangeMaps.setBlock,Array.size_setIfInBounds];exact(hS.free q b' hb').2⟩) (.imap l' b es' clock' hι hnew he)
 refine⟨undef,_,ι, .inr ⟨hr,rfl⟩,?_⟩;rw[hdst];exact h1
theorem ZEa (hS:Hold B X w0 n S a w ι){T:TypeId}{x y z:Operand}(hdn:dst=none)(hx:ZaD x=true)(hy:ZaD y=true)(hz:ZaD z=true)(hc:(ZeM (tyi P T) S.objs (S.ev x) (S.ev y) (S.ev z)).1):
  ZaQ P B X w0 n ⟨dst, .mapUpdate T x y z,ty,pos,af,gd⟩ (S.app dst (ZeM (tyi P T) S.objs (S.ev x) (S.ev y) (S.ev z)).2) a w:=by
 have hp:=hS.ev hx;have hq:=hS.ev hy;have hs:=hS.ev hz;generalize S.ev x=p at hc hp|-;generalize S.ev y=q at hc hq|-;generalize S.ev z=r at hc hs|-;unfold ZeM at hc|-;split at hc
 ·rename_i o k v;split at hc
  ·rename_i l hl;obtain⟨ke,e,i,hu,hk,hi,hiz⟩:=ZlC hc;obtain⟨b,hv,hι⟩:=ZlN hp;obtain⟨es,clock,hb,he⟩:=Zi3 hS hl hι;have hkv:=Zbt hq;have hvv:=Zbt hs;have hf:=Zup (w:=w) (P:=P) hk (x:=k) he.kv;simp only;cases hj:ZcK l k with
   |none=>
    refine ZrH hS (o:=⟨dst, .mapUpdate T x y z,ty,pos,af,gd⟩) hdn (es':=es.push {key:= .int .i64 k,val:= .int .i64 v,born:=clock}) (clock':=clock+1) hl hι hb ?_ ?_
    ·rw[hj]at hf;simp[execOp,hv,hkv,hvv,Instr.mapUpdate,run_underlying hu,MapKept.run_getObj_map hb,ZoT hk,hf,MapKept.run_setObj_map _ hb,Result.andThen,ChangeMaps.setBlock]
    ·rw[ZtP v hj];refine⟨by simp[he.kv],?_,by simp[he.clock]⟩;simp[he.born,qN,he.clock]
   |some j=>
    obtain⟨h1,h2,y0,h3⟩:=ZtQ v hj;have hlen:es.size=l.length:=by have:=qU List.length he.kv;simpa using this
    have hje:es[j]? =some es[j]:=uU (by omega);have hkey:es[j].key= .int .i64 k:=by
     have:=qU (λ t=>t[j]?) he.kv;simp only[uI,h3,qB,qS,hje,yI,Bl]at this;exact this.1
    refine ZrH hS (o:=⟨dst, .mapUpdate T x y z,ty,pos,af,gd⟩) hdn (es':=es.modify j λ e=>{e with key:= .int .i64 k,val:= .int .i64 v}) (clock':=clock) hl hι hb ?_ ?_
    ·rw[hj]at hf;simp only[qB]at hf;simp[execOp,hv,hkv,hvv,Instr.mapUpdate,run_underlying hu,MapKept.run_getObj_map hb,ZoT hk,hf,hje,hkey,MapKept.run_keyThatStays (show MapKept.IsKey (.int .i64) (.int .i64 k)from rfl),MapKept.run_setObj_map _ hb,Result.andThen,ChangeMaps.setBlock]
    ·rw[h1];refine⟨?_,?_,by rw[he.clock,yP]⟩
     rotate_left
     ·rw[yP,<-he.born];refine qA λ u=>?_
      simp only[uI,qS,Array.getElem?_modify];by_cases c:j=u
      ·subst c;simp[hje]
      ·simp only[if_neg c]
     refine qA λ u=>?_
     have hu2:=qU (λ t=>t[u]?) he.kv;simp only[uI,qS]at hu2;simp only[uI,qS,Array.getElem?_modify,qL];by_cases c:j=u
     ·subst c;simp[hje,h2]
     ·simp only[if_neg c];exact hu2
  ·exact hc.elim
 ·exact hc.elim
theorem ZD4 (hS:Hold B X w0 n S a w ι){T:TypeId}{x:Operand}{o:Nat}{l:List (Int×Int)}(hd:∀t,dst=some t->t<n)(hx:ZaD x=true)(hp0:S.ev x= .mp o)(hl:S.objs o= .imap l)(hc:(tyi P T).kind=7):
  ZaQ P B X w0 n ⟨dst, .call ⟨.builtin .len,#[x],#[T]⟩,ty,pos,af,gd⟩ (S.app dst {val:= .int l.length,rd:=[o]}) a w:=by
 have hp:=hS.ev hx;rw[hp0]at hp;obtain⟨ke,e,i,hu,hk,hi,hz⟩:=ZlC hc;obtain⟨b,hv,hι⟩:=ZlN hp;obtain⟨es,clock,hb,he⟩:=Zi3 hS hl hι;have hlen:es.size=l.length:=by have:=qU List.length he.kv;simpa using this
 rw[ZiC];refine hS.goes hd (v:= .int .i64 l.length) ?_ (.d _ _ (.sc _ rfl));simp[execOp,resolve,invoke,builtin,Builtin.len_,hv,run_underlying hu,MapKept.run_getObj_map hb,goInt,hlen,Result.andThen]
end hold
section hold
variable {P:Program}{B X:Nat->Prop}{w0:W0}{w:World}{n:Nat}{S:St}{a:Act}{ι:Nat->Option Nat}{dst:Option Nat}{ty:TypeId}{pos:String}{af:Array Edge}{gd:Option (Nat×Bool)}
theorem ZEe (hS:Hold B X w0 n S a w ι){T:TypeId}{x:Operand}(hd:∀t,dst=some t->t<n)(hx:ZaD x=true)(hc:(ZeN (tyi P T) S.objs dst (S.ev x)).1):
  ZaQ P B X w0 n ⟨dst, .range T x,ty,pos,af,gd⟩ (S.app dst (ZeN (tyi P T) S.objs dst (S.ev x)).2) a w:=by
 have hp:=hS.ev hx;generalize S.ev x=p at hc hp|-;unfold ZeN at hc|-;split at hc
 ·rename_i t o;split at hc
  ·rename_i l hl;obtain⟨h7,hdead⟩:=hc;obtain⟨ke,e,i,hu,hk,hi,hz⟩:=ZlC h7;obtain⟨b,hv,hι⟩:=ZlN hp;obtain⟨es,clock,hb,he⟩:=Zi3 hS hl hι;have hto:o≠t:=λ h=>by subst h;rw[hl]at hdead;cases hdead
   have hal:=MapKept.heap_alloc w (.mapIter (some b) clock #[] clock);have hob:Ob.At (w.alloc (.mapIter (some b) clock #[] clock)) (upd t (some w.heap.size) ι) X t (.iter o l.length []):=
    .iter o l.length [] w.heap.size b (if_pos rfl) ((if_neg hto).trans hι) (by rw[hal.1,he.clock])
   have h1:=hS.alloc hdead (w.alloc (.mapIter (some b) clock #[] clock)) rfl rfl rfl (by simp) (λ b hb=>hal.2 b hb) _ hob;refine⟨_,_,upd t (some w.heap.size) ι, .inl (by simp only[execOp,hv,Sem.run_bind,run_range_map w T _ _ b es clock hu hb];rfl),?_⟩;simp only[hl];exact h1.put (dst:=some t) (x:= .ptr t 1 0 0) (v:= .pointer (some ⟨w.heap.size,0,none⟩)) (λ u hu=>by cases hu;exact hd t rfl) (.ptr t 1 0 0 w.heap.size (if_pos rfl))
  ·exact hc.elim
 ·exact hc.elim
theorem Zyi {es:Array MapEntry}{clock:Nat}{l:List (Int×Int)}(h:EntOk es clock l){j:Nat}(hj:j<l.length):
  ∃e,es.toList[j]? =some e/\e.born=j/\e.key= .int .i64 (l.getD j (0,0)).1/\e.val= .int .i64 (l.getD j (0,0)).2:=by
 have hl:es.toList.length=l.length:=by have:=qU List.length h.kv;simpa using this
 have he:es.toList[j]? =some (es.toList[j]'(by omega)):=uR _;have h1:=qU (λ t=>t[j]?) h.kv;have h2:=qU (λ t=>t[j]?) h.born;have hlj:l[j]? =some (l.getD j (0,0)):=by rw[gW,uR hj];rfl
 simp only[uI,he,qB,hlj,yI,Bl,yR hj]at h1 h2;exact⟨_,he,h2,h1.1,h1.2⟩
theorem Zyz {es:Array MapEntry}{clock:Nat}{l:List (Int×Int)}(h:EntOk es clock l){j:Nat}{e:MapEntry}(he:es.toList[j]? =some e)(hb:e.born=j):es.find? (·.born==j)=some e:=by
 have:=find_born e es.toList (by rw[h.born];exact kT) (uA he);rw[hb]at this;rw[<-Array.find?_toList];exact this
theorem Zr3 (hS:Hold B X w0 n S a w ι){o b m k:Nat}{sn:List Nat}(ho:S.objs o= .iter m k sn)(hι:ι o=some b):
  ∃bm,ι m=some bm/\w.heap[b]? =some (.mapIter (some bm) k sn.toArray k):=by
 have:=hS.objs o;rw[ho]at this;cases this with
 |iter _ _ _ b' bm hι' hm hb=>
  rw[hι]at hι';cases hι';exact⟨bm,hm,hb⟩
theorem ZtN {o sz i c:Nat}{v:Value}(h:PV.At w ι X (.ptr o sz i c) v):∃b,v= .pointer (some ⟨b,i*sz+c,none⟩)/\ι o=some b:=by
 cases h with
 |ptr _ _ _ _ b hι=>exact⟨b,rfl,hι⟩
theorem ZDZ (hS:Hold B X w0 n S a w ι){x:Operand}(hd:∀t,dst=some t->t<n)(hx:ZaD x=true)(hc:(ZeJ S.objs (S.ev x)).1):
  ZaQ P B X w0 n ⟨dst, .entry x,ty,pos,af,gd⟩ (S.app dst (ZeJ S.objs (S.ev x)).2) a w:=by
 have hp:=hS.ev hx;generalize S.ev x=p at hc hp|-;unfold ZeJ at hc|-;split at hc
 ·rename_i o sz;split at hc
  ·rename_i m k sn hi;split at hc
   ·rename_i l j hl hj;obtain⟨hlk,hjk⟩:=hc;rw[ZiC];obtain⟨b,hv,hι⟩:=ZtN hp;obtain⟨bm,hm,hb⟩:=Zr3 hS hi hι;obtain⟨es,clock,hbm,he⟩:=Zi3 hS hl hm;obtain⟨e,h1,h2,h3,h4⟩:=Zyi he (j:=j) (by omega);have hf:=Zyz he h1 h2;have hck:clock=k:=by rw[he.clock,hlk]
    have hbk:sn.toArray.back?=some j:=by simp[hj]
    refine hS.goes hd (v:= .tuple #[e.key,e.val]) ?_ ?_
    ·simp only[execOp,hv,Instr.entry,getObj,Sem.run_bind,Sem.run,hb,hbm,Result.andThen,hbk,hf,hck,jK,gX,bne_self_eq_false,qD,jA];rfl
    ·rw[h3,h4];refine .tup _ #[_,_] rfl λ i d v hd hv=>?_
     rcases i with _|_|i
     ·simp at hd hv;subst hd;subst hv;exact .d _ _ (.sc _ rfl)
     ·simp at hd hv;subst hd;subst hv;exact .d _ _ (.sc _ rfl)
     ·simp at hd
   ·exact hc.elim
  ·exact hc.elim
 ·exact hc.elim
end hold
section hold
variable {P:Program}{B X:Nat->Prop}{w0:W0}{w:World}{n:Nat}{S:St}{a:Act}{ι:Nat->Option Nat}{dst:Option Nat}{ty:TypeId}{pos:String}{af:Array Edge}{gd:Option (Nat×Bool)}
theorem Zov {o b0:Nat}{b:Nat}(hb:ownX (upd o (some b0) ι) X b):ownX ι X b\/b=b0:=by
 rcases hb with hb|⟨o',hb⟩
 ·exact .inl (.inl hb)
 ·by_cases he:o'=o
  ·subst he;rw[upd,if_pos rfl]at hb;cases hb;exact .inr rfl
  ·rw[upd,if_neg he]at hb;exact .inl (.inr ⟨o',hb⟩)
theorem Zyb :RowKit.Below w.heap.size w w.drew:=⟨rfl,rfl,rfl,uJ _,λ _ _=>rfl⟩
theorem ZmO (hS:Hold B X w0 n S a w ι){o:Oper}{t:Nat}(hdst:o.dst=some t)(ht:t<n)(hdead:S.objs t= .dead){e:TypeId}{z:Value}{sz cap:Nat}{l xs:List D}{olds Zan:List Value}
  (hr:(execOp a.eval o).run P w= .ok (.value (.slice (some ⟨w.heap.size,0,none⟩) (l.length+xs.length) cap)) (w.drew.alloc (.cells (olds.toArray++Zan.toArray++Builtin.zeroCells z.cells (cap-(l.length+xs.length))) e)))
  (hcap:l.length+xs.length<=cap)(hcm:cap<=maxLen)(hzs:z.cells.size=sz)(hz1:∀v∈z.cells.toList,v.oneCell'=true)
  (hol:olds.length=l.length*sz)(hnl:Zan.length=xs.length*sz)(hcl:∀d,d∈l++xs->d.cells.length=sz)(ho1:∀u∈olds,u.oneCell'=true)(hn1:∀u∈Zan,u.oneCell'=true)
  (hoat:∀(i:Nat) d (j:Nat) e u,l[i]? =some d->d.cells[j]? =some e->olds[i*sz+j]? =some u->D.At w (ownX ι X) e u)
  (hnat:∀(i:Nat) d (j:Nat) e u,xs[i]? =some d->d.cells[j]? =some e->Zan[i*sz+j]? =some u->D.At w (ownX ι X) e u):
  ZaQ P B X w0 n o (S.app o.dst {val:= .ref t sz 0 (l.length+xs.length) (l.length+xs.length),wr:=[(t, .row sz (l++xs))]}) a w:=by
 obtain⟨g1,g2,g3⟩:=ZC4 (w:=w) (k:=(cap-(l.length+xs.length))*sz) hol hnl hcl ho1 hn1 (ZvF hz1) hoat hnat (by rw[size_zeroCells,hzs]);generalize hw':w.drew.alloc (.cells (olds.toArray++Zan.toArray++Builtin.zeroCells z.cells (cap-(l.length+xs.length))) e)=w' at hr;generalize olds.toArray++Zan.toArray++Builtin.zeroCells z.cells (cap-(l.length+xs.length))=arr at*;have hold:∀b,b<w.heap.size->w'.heap[b]? =w.heap[b]? :=λ b hb=>by subst hw';exact heap_alloc_old w.drew _ hb
 have hnew:w'.heap[w.heap.size]? =some (.cells arr e (0,0)):=by subst hw';exact heap_alloc_new w.drew _
 have hsz:w'.heap.size=w.heap.size+1:=by subst hw';simp
 have hob:Ob.At w' (upd t (some w.heap.size) ι) X t (.row sz (l++xs)):=
  .row sz (l++xs) w.heap.size arr e (if_pos rfl) hnew (by rw[g1];omega) hcl g2 λ i d j e v hi hj hv=>
   (g3 i d j e v hi hj hv).mono (λ b hb=>(Zov hb).imp id (λ h=>by omega)) (λ b hb _=>hold b hb)
 have h1:=hS.alloc hdead w' (by subst hw';rfl) (by subst hw';rfl) (by subst hw';rfl) hsz hold _ hob;refine⟨_,_,upd t (some w.heap.size) ι, .inl hr,?_⟩;have h2:=h1.put (dst:=o.dst) (x:= .ref t sz 0 (l.length+xs.length) (l.length+xs.length)) (v:= .slice (some ⟨w.heap.size,0*sz,none⟩) (l.length+xs.length) cap) (λ u hu=>by rw[hdst]at hu;cases hu;exact ht)
  (.ref t sz 0 _ _ cap w.heap.size (if_pos rfl) hcap hcap hcm (by
   simp only[bsz,hnew,g1,uG,qT,<-qJ]
   congr 1;omega))
 rw[jK]at h2;rw[hdst]at h2|-;exact h2
theorem ZaQ.gone {o:Oper}{t q:Nat}{v:PV}{ob:Ob}(hne:t≠q)(h:ZaQ P B X w0 n o (S.app o.dst {val:=v,wr:=[(t,ob)]}) a w):
  ZaQ P B X w0 n o (S.app o.dst {val:=v,wr:=[(t,ob),(q, .gone)]}) a w:=by
 obtain⟨v',w',ι',h1,h2⟩:=h;refine⟨v',w',ι',h1,?_⟩;have h3:=h2.gone q;have e:upd q Ob.gone (S.app o.dst {val:=v,wr:=[(t,ob)]}).objs=(S.app o.dst {val:=v,wr:=[(t,ob),(q, .gone)]}).objs:=by
  funext i
  simp only[St.app,wrs,upd];by_cases h1:i=q
  ·subst h1;rw[if_pos rfl,if_neg (λ h=>hne h.symm),if_pos rfl]
  ·by_cases h2:i=t
   ·subst h2;rw[if_neg h1,if_pos rfl,if_pos rfl]
   ·simp only[if_neg h1,if_neg h2]
 rw[e]at h3;exact h3
theorem ZDN (hS:Hold B X w0 n S a w ι){t u:TypeId}{s x:Operand}(hd:∀t,dst=some t->t<n)(hs:ZaD s=true)(hx:ZaD x=true)
  (hc:(ZdY S.objs dst (tyi P t) (tyi P u) (tyi P (tyi P t).elem) (S.ev s) (S.ev x)).1):
  ZaQ P B X w0 n ⟨dst, .call ⟨.builtin .append,#[s,x],#[t,u]⟩,ty,pos,af,gd⟩ (S.app dst (ZdY S.objs dst (tyi P t) (tyi P u) (tyi P (tyi P t).elem) (S.ev s) (S.ev x)).2) a w:=by
 obtain⟨xs,t',hxs,hdst,hdead,hk1,hk2,hz,hby,hcl,hcase⟩:=ZoX hc;have ht'n:t'<n:=hd t' hdst;have ht:=ZdT hk1;have hu:=ZdT hk2;obtain⟨ie,z,hie,hiz,hzs,hisz,hiby,hz1,hne,hzz,_⟩:=Zjw hz;generalize he:(tyi P (tyi P t).elem)=ety at*;have hps:=hS.ev hs;have hpx:=hS.ev hx;have hxr:=ZoM (P:=P) hS hpx hxs hcl;have hSd:=hS.ext (w':=w.drew) Zyb;have hxrd:=ZoM (P:=P) hSd (hSd.ev hx) hxs hcl;obtain⟨xb,xc,Zan,hxv,hnl,hf,hn1,hnat⟩:=hxr;obtain⟨xb',xc',news',hxv',hnl',hf',hn1',hnat'⟩:=hxrd;have hexec:∀(sv:Value),a.eval s=sv->∀v w',(Builtin.append_ #[t,u] ty #[sv,a.eval x]).run P w= .ok v w'->
   (execOp a.eval ⟨dst, .call ⟨.builtin .append,#[s,x],#[t,u]⟩,ty,pos,af,gd⟩).run P w= .ok (.value v) w':=by
  intro sv hsv v w' hr;simp only[execOp,resolve,invoke,builtin,Sem.run_bind,Sem.run_pure,Result.andThen_ok,List.map_toArray,uT,yH,hsv,hr]
 have hxx:∃b c,a.eval x= .slice b xs.length c:=⟨xb,xc,hxv⟩;have rdrop:∀(q:St) (r:List Nat) (v:PV) (wr:List (Nat×Ob)),q.app dst {val:=v,wr:=wr,rd:=r}=q.app dst {val:=v,wr:=wr}:=λ q r v wr=>rfl
 rcases hcase with⟨o,sz,len,cap,l,hsv,hob,rfl,hlen,hroom,heq⟩|⟨hsv,hroom,heq⟩
 ·rw[heq,rdrop];rw[hsv]at hps;have hto:t'≠o:=λ he=>by rw[he,hob]at hdead;cases hdead
  generalize hva:a.eval s=va at hps;have hoo:=hS.objs o;rw[hob]at hoo;cases hps with
  |ref0 _ _ _ base=>
   refine ZaQ.gone (P:=P) (o:=⟨dst, .call ⟨.builtin .append,#[s,x],#[t,u]⟩,ty,pos,af,gd⟩) hto ?_;by_cases hm:xs.length=0
   ·have hx0:xs=[]:=qI hm;subst hx0;have hn0:Zan=[]:=qI (by simpa using hnl);subst hn0;have hr:(Builtin.append_ #[t,u] ty #[.slice base 0 0,a.eval x]).run P w= .ok (.slice base 0 0) w:=by
     rw[hxv]at hf|-;cases base with
     |none=>simp[Builtin.append_,run_underlying ht,run_underlying hu,sizeOf,typeInfo,hie,Builtin.lenOf,hisz]at hf|-;simp[hf]
     |some b=>simp[Builtin.append_,run_underlying ht,run_underlying hu,sizeOf,typeInfo,hie,Builtin.lenOf,hisz,storeCells]at hf|-;simp[hf,storeCells]
    have h1:Hold B X w0 n {env:=S.env,objs:=upd t' (.row ety.size (l.take 0++[])) S.objs} a w ι:=
     hS.change none t' _ ι w rfl rfl rfl (uJ _) (λ _ _=>rfl) (λ _ h=>h) (λ b hb=>by cases hb) (λ _ _ _=>rfl) (λ b hb=>by rw[hS.dead hdead]at hb;cases hb) (.row0 _ (hS.dead hdead))
    refine⟨_,_,ι, .inl (hexec _ hva _ _ hr),?_⟩;rw[hdst]at hd|-;exact h1.put (dst:=some t') hd (.ref0 t' ety.size 0 base)
   ·have hr:=Zl9 (P:=P) (w:=w) (ty':=ty) ht hu hie hiz (base:=base) (len:=0) (cap:=0) (m:=xs.length) (x:=a.eval x) (olds:=[]) (Zan:=news') ⟨xb,xc,hxv⟩
     (by cases base<;>simp[Builtin.firstCells,loadCells,loadCellsFrom]) (by rw[hisz];exact hf') (by omega) (by omega) (by omega)
    have:=ZmO (P:=P) (o:=⟨dst, .call ⟨.builtin .append,#[s,x],#[t,u]⟩,ty,pos,af,gd⟩) hS hdst ht'n hdead (l:=[]) (xs:=xs) (olds:=[]) (Zan:=news') (sz:=ety.size) (z:=z) (e:=(tyi P t).elem) (cap:=grownCap w (0+xs.length) 0 (tyi P t).elem)
     (by simpa using hexec _ hva _ _ hr) (by simpa using grownCap_ge w (0+xs.length) 0 (tyi P t).elem) (grownCap_le_maxLen w _ _ _ (by simp only[maxLen];omega)) hzs hz1 (by simp) hnl' (by simpa using hcl) (by simp) hn1' (by simp)
     (λ i d j e v hi hj hv=>(hnat' i d j e v hi hj hv).mono (λ b hb=> .inl hb) (λ _ _ _=>rfl))
    simpa using this
  |ref _ _ _ _ _ capr b hι hl hcc hm hss=>
   cases hoo with
   |row0 _ h=>rw[h]at hι;cases hι
   |row _ _ b' c T hι' hb hsz hcl' hone h=>
    rw[hι]at hι';cases hι';simp only[qT,bsz,hb]at hss;have hlc:len*ety.size<=c.size:=gP (yO _ hlen) hsz
    have holds:(Builtin.firstCells ety.size len (.slice (some ⟨b,0,none⟩) len capr)).run P w.drew= .ok (c.toList.take (len*ety.size)).toArray w.drew:=by
     refine run_firstCells_some (P:=P) w.drew ety.size len ⟨b,0,none⟩ len capr _ (by simp;omega) (λ j v hj=>?_);rw[qH]at hj;split at hj
     ·rw[ZdJ,qT,Zdg (w:=w.drew) hb];simpa using hj
     ·cases hj
    have hol:(c.toList.take (len*ety.size)).length=(l.take len).length*ety.size:=by
     simp only[yJ,Bj,jE hlen];omega
    have hcl2:∀d,d∈l.take len++xs->d.cells.length=ety.size:=by
     intro d hd';rcases yK.1 hd' with hd'|hd'
     ·exact hcl' d (gT hd')
     ·exact hcl d hd'
    have hlt:(l.take len).length=len:=by simp;omega
    have hoat:∀(i:Nat) d (j:Nat) e v,(l.take len)[i]? =some d->d.cells[j]? =some e->(c.toList.take (len*ety.size))[i*ety.size+j]? =some v->D.At w (ownX ι X) e v:=by
     intro i d j e v hi hj hv;rw[qH]at hi hv;split at hi
     ·split at hv
      ·exact h i d j e v hi hj (by simpa using hv)
      ·cases hv
     ·cases hi
    have ho1:∀v∈c.toList.take (len*ety.size),v.oneCell'=true:=λ v hv=>by
     obtain⟨j,hj⟩:=yU (gT hv);exact hone j v (by simpa using hj)
    simp only[jK]at hva;by_cases hfit:len+xs.length<=capr
    ·
     have hfc:len*ety.size+Zan.length<=c.size:=by rw[hnl,<-hss,<-qJ];exact yO _ hfit
     have hr:=Zul (P:=P) (w:=w) (ty':=ty) ht hu hie hb (x:=a.eval x) (Zan:=Zan) (len:=len) (cap:=capr) ⟨xb,xc,hxv⟩ (by rw[hisz];exact hf) (by rw[hisz];exact hnl) hn1 hfit (by rw[hisz];exact hfc);rw[hisz]at hr;have hob':Ob.At (w.setRow b (c.toList.take (len*ety.size)++Zan++c.toList.drop (len*ety.size+Zan.length)).toArray) (upd t' (some b) ι) X t' (.row ety.size (l.take len++xs)):=by
      have hX1:∀b',ownX (upd t' (some b) ι) X b'->ownX ι X b':=λ b' hb'=>(Zov hb').elim id (λ he=>he▸ .inr ⟨o,hι⟩)
      refine .row _ _ b _ T (if_pos rfl) (setRow_heap w b c _ T (0,0) hb) ?_ hcl2 (λ j v hj=>?_) (λ i d j e v hi hj hv=>?_)
      ·rw[ZdF _ _ _ hfc,uG,hlt,qJ];omega
      ·rw[ZfO _ _ _ hfc]at hj;split at hj
       ·exact hone j v hj
       ·split at hj
        ·exact hn1 v (uA hj)
        ·exact hone j v hj
      ·refine(D.At.store hS hι hb (ZdF _ _ _ hfc) ?_).sub hX1;have hil:=(uB.1 hi).1;have hjs:j<ety.size:=by rw[<-hcl2 d (uA hi)];exact(uB.1 hj).1
       rw[ZfO _ _ _ hfc]at hv;rw[jB,hlt]at hi;rw[uG,hlt]at hil;by_cases hcs:i<len
       ·rw[if_pos hcs]at hi;have:(i+1)*ety.size<=len*ety.size:=yO _ hcs;rw[qJ]at this;rw[if_pos (by omega)]at hv;rw[qH,if_pos hcs]at hi;exact h i d j e v hi hj hv
       ·rw[if_neg hcs]at hi;have h1:len*ety.size<=i*ety.size:=yO _ (by omega);have h2:(i+1)*ety.size<=(len+xs.length)*ety.size:=yO _ hil;rw[qJ,qJ]at h2;rw[if_neg (by omega),if_pos (by omega)]at hv;have heq2:i*ety.size+j-len*ety.size=(i-len)*ety.size+j:=by rw[Nat.sub_mul];omega
        rw[heq2]at hv;exact hnat (i-len) d j e v hi hj hv
     have h0:=hS.gone o;have hdead0:({env:=S.env,objs:=upd o .gone S.objs}:St).objs t'= .dead:=by simp only[upd,if_neg hto];exact hdead
     have h1:=h0.change (some b) t' (.row ety.size (l.take len++xs)) (upd t' (some b) ι) (w.setRow b (c.toList.take (len*ety.size)++Zan++c.toList.drop (len*ety.size+Zan.length)).toArray) rfl rfl rfl (by simp)
      (λ o' hne=>if_neg hne) (λ b' hb'=>by rw[h0.dead hdead0]at hb';cases hb')
      (λ b' hb'=>by
       cases hb';refine⟨⟨o,hι⟩,λ o' hne hg ho'=>?_,by simp only[bsz,hb,setRow_heap w b c _ T (0,0) hb,ZdF _ _ _ hfc]⟩;have hne2:o'≠o:=λ he=>hg (by subst he;exact if_pos rfl)
       simp only[upd,if_neg hne2]at hg;exact hne2 (hS.inj o' o b hg (by rw[hob];simp) ho' hι))
      (λ b' _ hne=>setRow_other w b b' _ (λ he=>hne (by rw[he])))
      (λ b' hb'=>by
       rw[upd,if_pos rfl]at hb';cases hb';refine⟨.inr (.inr ⟨⟨o,hι⟩,λ o' hne hg ho'=>?_⟩),by rw[Zmb];exact(hS.free o b hι).2⟩;have hne2:o'≠o:=λ he=>hg (by subst he;exact if_pos rfl)
       simp only[upd,if_neg hne2]at hg;exact hne2 (hS.inj o' o b hg (by rw[hob];simp) ho' hι)) hob'
     refine⟨_,_,upd t' (some b) ι, .inl (hexec _ hva _ _ hr),?_⟩;have h2:=h1.put (dst:=dst) (x:= .ref t' ety.size 0 (len+xs.length) (len+xs.length)) (v:= .slice (some ⟨b,0*ety.size,none⟩) (len+xs.length) capr) hd
      (.ref t' ety.size 0 _ _ capr b (if_pos rfl) hfit hfit hm (by simp only[bsz,setRow_heap w b c _ T (0,0) hb,ZdF _ _ _ hfc,qT,hss]))
     rw[jK]at h2;exact h2
    ·
     refine ZaQ.gone (P:=P) (o:=⟨dst, .call ⟨.builtin .append,#[s,x],#[t,u]⟩,ty,pos,af,gd⟩) hto ?_;have hr:=Zl9 (P:=P) (w:=w) (ty':=ty) ht hu hie hiz (base:=some ⟨b,0,none⟩) (len:=len) (cap:=capr) (m:=xs.length) (x:=a.eval x) (olds:=c.toList.take (len*ety.size)) (Zan:=news') ⟨xb,xc,hxv⟩
      (by rw[hisz];exact holds) (by rw[hisz];exact hf') (by omega) (by omega) (by omega)
     have:=ZmO (P:=P) (o:=⟨dst, .call ⟨.builtin .append,#[s,x],#[t,u]⟩,ty,pos,af,gd⟩) hS hdst ht'n hdead (l:=l.take len) (xs:=xs) (olds:=c.toList.take (len*ety.size)) (Zan:=news') (sz:=ety.size) (z:=z) (e:=(tyi P t).elem) (cap:=grownCap w (len+xs.length) capr (tyi P t).elem)
      (by rw[hlt];exact hexec _ hva _ _ hr) (by rw[hlt];exact grownCap_ge w _ _ _) (grownCap_le_maxLen w _ _ _ (by simp only[maxLen];omega)) hzs hz1 hol hnl' hcl2 ho1 hn1' hoat
      (λ i d j e v hi hj hv=>(hnat' i d j e v hi hj hv).mono (λ b hb=> .inl hb) (λ _ _ _=>rfl))
     rw[hlt]at this;exact this
 ·rw[heq,rdrop];have hva:∃base,a.eval s= .slice base 0 0:=by
   generalize a.eval s=va at hps;rcases hsv with h|h<;>rw[h]at hps<;>cases hps<;>exact⟨_,rfl⟩
  obtain⟨base,hva⟩:=hva;by_cases hm:xs.length=0
  ·have hx0:xs=[]:=qI hm;subst hx0;have hn0:Zan=[]:=qI (by simpa using hnl);subst hn0;have hr:(Builtin.append_ #[t,u] ty #[.slice base 0 0,a.eval x]).run P w= .ok (.slice base 0 0) w:=by
    rw[hxv]at hf|-;cases base with
    |none=>simp[Builtin.append_,run_underlying ht,run_underlying hu,sizeOf,typeInfo,hie,Builtin.lenOf,hisz]at hf|-;simp[hf]
    |some b=>simp[Builtin.append_,run_underlying ht,run_underlying hu,sizeOf,typeInfo,hie,Builtin.lenOf,hisz,storeCells]at hf|-;simp[hf,storeCells]
   have h1:Hold B X w0 n {env:=S.env,objs:=upd t' (.row ety.size []) S.objs} a w ι:=
    hS.change none t' _ ι w rfl rfl rfl (uJ _) (λ _ _=>rfl) (λ _ h=>h) (λ b hb=>by cases hb) (λ _ _ _=>rfl) (λ b hb=>by rw[hS.dead hdead]at hb;cases hb) (.row0 _ (hS.dead hdead))
   refine⟨_,_,ι, .inl (hexec _ hva _ _ hr),?_⟩;rw[hdst]at hd|-;exact h1.put (dst:=some t') hd (.ref0 t' ety.size 0 base)
  ·have hr:=Zl9 (P:=P) (w:=w) (ty':=ty) ht hu hie hiz (base:=base) (len:=0) (cap:=0) (m:=xs.length) (x:=a.eval x) (olds:=[]) (Zan:=news') ⟨xb,xc,hxv⟩
    (by cases base<;>simp[Builtin.firstCells,loadCells,loadCellsFrom]) (by rw[hisz];exact hf') (by omega) (by omega) (by omega)
   have:=ZmO (P:=P) (o:=⟨dst, .call ⟨.builtin .append,#[s,x],#[t,u]⟩,ty,pos,af,gd⟩) hS hdst ht'n hdead (l:=[]) (xs:=xs) (olds:=[]) (Zan:=news') (sz:=ety.size) (z:=z) (e:=(tyi P t).elem) (cap:=grownCap w (0+xs.length) 0 (tyi P t).elem)
    (by simpa using hexec _ hva _ _ hr) (by simpa using grownCap_ge w (0+xs.length) 0 (tyi P t).elem) (grownCap_le_maxLen w _ _ _ (by simp only[maxLen];omega)) hzs hz1 (by simp) hnl' (by simpa using hcl) (by simp) hn1' (by simp)
    (λ i d j e v hi hj hv=>(hnat' i d j e v hi hj hv).mono (λ b hb=> .inl hb) (λ _ _ _=>rfl))
   simpa using this
end hold
end Go.PS
