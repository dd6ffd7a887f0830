/- Made slices and functions. -/
import Derived.Test.YtjjbhjnpeenbkaaGreatDoorPSOps4
import Derived.Laws.MakeOwn
import Derived.Carry
import Derived.Laws.IdiomRangeMap
import Derived.Lib.ConvBytes
set_option linter.unusedSimpArgs false
set_option linter.unusedVariables false
set_option maxHeartbeats 16000000
namespace Go.PS
open Go
section hold
variable {P:Program}{B X:Nat->Prop}{w0:W0}{w:World}{n:Nat}{S:St}{a:Act}{ι:Nat->Option Nat}{dst:Option Nat}{ty:TypeId}{pos:String}{af:Array Edge}{gd:Option (Nat×Bool)}
theorem Sl (O:Hold B X w0 n S a w ι){fn:Fn}{Y Z:Array Operand}(N:∀t,dst=some t->t<n)(M:∀x∈Z.toList,aZ x=true)
  (V:(nU fn (Y.toList.map S.ev) (Z.toList.map S.ev)).1):bC P B X w0 n ⟨dst, .makeFunc fn Y Z,ty,pos,af,gd⟩ (S.app dst (nU fn (Y.toList.map S.ev) (Z.toList.map S.ev)).2) a w:=by
 unfold nU at V|-;split at V
 ·rename_i f T;have U:Y=#[]:=by
   have:Y.toList=[]:=by simpa using T
   exact Array.toList_eq_nil_iff.1 this
  subst U;simp only;rw[bH];refine O.goes (v:= .func (.func f) #[] (Z.map a.eval)) N (by simp[execOp,Instr.makeFunc]) (.fn f _ _ xB (λ j p v h Q=>?_));rw[uJ]at h;rw[zH]at Q;simp only[qY]at h;cases R:Z[j]? with
  |none=>rw[R]at h;cases h
  |some x=>
   rw[R]at h Q;cases h;cases Q;exact O.ev (M x (by simpa using jJ R))
 ·exact V.elim
theorem Sn (G:Hold B X w0 n S a w ι){T:TypeId}{l c:Operand}(hd:∀t,dst=some t->t<n)(hl:aZ l=true)(A:aZ c=true)
  (F:(mK (tyi P T) (tyi P (tyi P T).elem) S.objs dst (S.ev l) (S.ev c)).1):
  bC P B X w0 n ⟨dst, .makeSlice T l c,ty,pos,af,gd⟩ (S.app dst (mK (tyi P T) (tyi P (tyi P T).elem) S.objs dst (S.ev l) (S.ev c)).2) a w:=by
 have h1:=G.ev hl;have h2:=G.ev A;unfold mK at F|-;split at F
 ·rename_i t m m' e1 e2;obtain⟨hk,hz,rfl,h0,C,E,V⟩:=F;rw[e1]at h1;rw[e2]at h2;have v1:=cP h1;have v2:=cP h2;have hu:=gy hk;obtain⟨ie,z,s,hiz,hzs,O,Q,hz1,hne,H,_⟩:=qq hz;have R:=I7 hz;generalize he:(tyi P (tyi P T).elem)=Z at*;obtain⟨k,rfl⟩:∃k:Nat,m=k:=⟨m.toNat,xA⟩;simp only[uK];have hr:=run_make (P:=P) w T (tyi P T).elem ie z hu s hiz .i64 .i64 (k:Int) (k:Int) h0 (qR _) (by rw[Q];exact C) E;simp only[uK]at hr;have Y:o4 w (ownX ι X) Z.size (List.replicate k (.ofCells Z.agg (Z.zero.map cellD))) (madeCells z.cells (k*Z.size)):=by
   rw[H];exact I6 hzs hz1 hne R
  rw[O]at hr;have I:oI Z.zero=true->z.cells.toList=[.slice none 0 0]:=by
   intro h;rw[<-H];unfold oI at h;split at h
   ·assumption
   ·cases h
  have J:oI Z.zero=true->Z.size=1:=by
   intro h;have:=gL List.length (I h);simp at this;omega
  have M:oI Z.zero=true->∀(j:Nat) v,(madeCells z.cells (k*Z.size))[j]? =some v->v= .slice none 0 0:=by
   intro h j v N;have hzc:z.cells=#[.slice none 0 0]:=by rw[<-Array.toList_inj];exact I h
   have E:v∈madeCells z.cells (k*Z.size):=jJ N;have hme:madeCells z.cells (k*Z.size)=(Array.range (k*Z.size)).map (λ k=>z.cells[k%z.cells.size]!):=rfl;rw[hme,hzc]at E;obtain⟨q,_,rfl⟩:=Array.mem_map.1 E;have:q%(#[Value.slice none 0 0]:Array Value).size=0:=by simp[Nat.mod_one]
   rw[this];rfl
  generalize hmc:madeCells z.cells (k*Z.size)=arr at*;have U:∀b,b<w.heap.size->(w.alloc (.cells arr (tyi P T).elem)).heap[b]? =w.heap[b]? :=λ b C=>heap_alloc_old w _ C
  have hob:Ob.At (w.alloc (.cells arr (tyi P T).elem)) (upd t (some w.heap.size) ι) X t (if oI Z.zero=true then .cells (List.replicate k .nilS)else .row Z.size (List.replicate k (.ofCells Z.agg (Z.zero.map cellD)))):=by
   split
   ·rename_i L;refine .cells _ w.heap.size arr (tyi P T).elem (if_pos rfl) (heap_alloc_new w _) (by rw[Y.1,yH,yH,J L,kS];exact uI _) Y.2.2.1 λ j p v N hv=>?_
    rw[M L j v hv,Ag (uA N)];exact .nilS
   ·exact .row Z.size _ w.heap.size arr (tyi P T).elem (if_pos rfl) (heap_alloc_new w _) (by rw[Y.1];exact uI _) Y.2.1 Y.2.2.1 (λ i d j e v hi N hv=>(Y.2.2.2 i d j e v hi N hv).alloc G V U)
  have h3:=G.alloc V (w.alloc (.cells arr (tyi P T).elem)) rfl rfl rfl xB U _ hob;have K:(execOp a.eval ⟨some t, .makeSlice T l c,ty,pos,af,gd⟩).run P w= .ok (.value (.slice (some ⟨w.heap.size,0,none⟩) k k)) (w.alloc (.cells arr (tyi P T).elem)):=by
   simp only[execOp,v1,v2,Sem.run_bind,hr,Result.andThen_ok,Sem.run_pure]
  refine⟨_,_,upd t (some w.heap.size) ι, .inl K,?_⟩;have h4:=h3.put (dst:=some t) (x:= .ref t Z.size 0 k k) (v:= .slice (some ⟨w.heap.size,0*Z.size,none⟩) k k) hd
   (.ref t Z.size 0 k k k w.heap.size (if_pos rfl) (uI _) (uI _) (by simp only[maxLen];omega) (by simp only[bsz,heap_alloc_new w,Y.1,yH,yU]))
  rw[jP]at h4;exact h4
 ·exact F.elim
end hold
section hold
variable {P:Program}{B X:Nat->Prop}{w0:W0}{w:World}{n:Nat}{S:St}{a:Act}{ι:Nat->Option Nat}{dst:Option Nat}{ty:TypeId}{pos:String}{af:Array Edge}{gd:Option (Nat×Bool)}
theorem Nn {p:PV}{v:Value}{m:Nat}(h:PV.At w ι X p v)(Z:fY p=some m):∃b c,v= .slice b m c:=by
 cases h with
 |d x v h=>
  cases h with
  |slnil Y cap=>cases Z;exact⟨_,_,rfl⟩
  |sl=>cases Z;exact⟨_,_,rfl⟩
  |_=>cases Z
 |ref=>cases Z;exact⟨_,_,rfl⟩
 |ref0=>cases Z;exact⟨_,_,rfl⟩
 |nilS=>cases Z;exact⟨_,_,rfl⟩
 |z0=>cases Z;exact⟨_,_,rfl⟩
 |_=>cases Z
def sN (P:Program)(w:World)(Y:Nat->Prop)(sz:Nat)(xs:List D)(v:Value):Prop:=
 ∃(b:Option Addr) (cap:Nat) (aJ:List Value),v= .slice b xs.length cap/\aJ.length=xs.length*sz/\(Builtin.firstCells sz xs.length v).run P w= .ok aJ.toArray w/\(∀u∈aJ,u.oneCell'=true)/\
  ∀(i:Nat) d (j:Nat) e u,xs[i]? =some d->d.cells[j]? =some e->aJ[i*sz+j]? =some u->D.At w Y e u
theorem p8 {Y:Nat->Prop}{sz:Nat}(base:Option Addr)(cap:Nat):sN P w Y sz [] (.slice base 0 cap):=by
 refine⟨base,cap,[],rfl,xB,?_,xB,xB⟩;cases base<;>simp[Builtin.firstCells,loadCells,loadCellsFrom]
theorem GW {Y:Nat->Prop}{sz:Nat}{xs:List D}{b off cap:Nat}(_hcl:∀d,d∈xs->d.cells.length=sz)(vals:Nat->Value)
  (R:∀k,k<xs.length*sz->w.cell? ⟨b,off+k,none⟩=some (vals k)/\(vals k).oneCell'=true)
  (T:∀(i:Nat) d (j:Nat) e,xs[i]? =some d->d.cells[j]? =some e->D.At w Y e (vals (i*sz+j))):sN P w Y sz xs (.slice (some ⟨b,off,none⟩) xs.length cap):=by
 refine⟨_,_,(List.range (xs.length*sz)).map vals,rfl,xB,?_,?_,?_⟩
 ·refine run_firstCells_some (P:=P) w sz xs.length ⟨b,off,none⟩ _ _ _ xB (λ j v U=>?_);rw[uJ]at U;rcases uD j (xs.length*sz)with h|V
  ·rw[yZ h]at U;cases U;rw[gg];exact(R j h).1
  ·rw[uL (by simpa using V)]at U;cases U
 ·intro u Z;simp only[uR,yD]at Z;obtain⟨k,O,rfl⟩:=Z;exact(R k O).2
 ·intro i d j e u Q U Z;rw[uJ]at Z;rcases uD (i*sz+j) (xs.length*sz)with h|V
  ·rw[yZ h]at Z;cases Z;exact T i d j e Q U
  ·rw[uL (by simpa using V)]at Z;cases Z
theorem DI {l:Nat}{k sz:Nat}(h:k<l*sz):k/sz<l/\k%sz<sz/\k/sz*sz+k%sz=k:=by
 have Z:0<sz:=by rcases qO sz with rfl|Z;· simp at h
                 · exact Z
 exact⟨Nat.div_lt_of_lt_mul (by rw[Cx];exact h),Do _ Z,by rw[Cx];exact Nat.div_add_mod k sz⟩
theorem Qx {Y:Nat->Prop}{sz:Nat}{xs:List D}{v:Value}(h:D.At w Y (.sl xs) v)(T:∀d,d∈xs->d.cells.length=sz):sN P w Y sz xs v:=by
 cases h with
 |slnil U cap=>exact p8 U cap
 |sl l b A cap s q z V vals C h=>
  cases xs with
  |nil=>exact p8 _ _
  |cons x r=>
   have E:s=sz:=by rw[<-T x xB];exact(V x xB).symm
   subst E;have Z:∀k,k<(x::r).length*s->∃d c,(x::r)[k/s]? =some d/\d.cells[k%s]? =some c:=by
    intro k Q;obtain⟨O,L,K⟩:=DI Q;have M:(x::r)[k/s]? =some ((x::r)[k/s]):=uT O;exact⟨_,_,M,uT (by rw[V _ (kJ O)];exact L)⟩
   refine GW T (λ k=>vals (k/s) (k%s)) (λ k Q=>?_) (λ i d j e J I=>?_)
   ·obtain⟨d,c,M,N⟩:=Z k Q;obtain⟨O,L,K⟩:=DI Q;have:=C _ d _ c M N;rw[zW,K]at this;exact⟨this.1,this.2.1⟩
   ·have R:j<s:=by rw[<-V d (uA J)];exact(uB.1 I).1
    have F:0<s:=xA;have H:(i*s+j)/s=i:=by rw[Cx,Nat.mul_add_div F,Nat.div_eq_of_lt R];rfl
    have G:(i*s+j)%s=j:=by rw[Cx,Nat.mul_add_mod];exact Dm R
    simp only[H,G];exact h i d j e J I
theorem yg (hS:Hold B X w0 n S a w ι){p:PV}{v:Value}{xs:List D}{sz:Nat}(z:PV.At w ι X p v)(Z:dB S.objs p=some xs)(N:∀d,d∈xs->d.cells.length=sz):
  sN P w (ownX ι X) sz xs v:=by
 cases p with
 |d x=>cases x<;>simp[dB]at Z;subst Z;cases z;exact Qx (by assumption) N
 |nilS=>simp[dB]at Z;subst Z;cases z;exact p8 _ _
 |z0=>simp[dB]at Z;subst Z;cases z;exact p8 _ _
 |unk=>simp[dB]at Z
 |und=>simp[dB]at Z
 |ab=>simp[dB]at Z
 |mp _=>simp[dB]at Z
 |ifp _ _=>simp[dB]at Z
 |ref o s off len cap=>
  simp only[dB]at Z;cases V:S.objs o with
  |dead=>rw[V]at Z;cases Z
  |imap _=>rw[V]at Z;cases Z
  |iter _ _ _=>rw[V]at Z;cases Z
  |gone=>rw[V]at Z;cases Z
  |cells q=>rw[V]at Z;cases Z
  |row sz'' l=>
   rw[V]at Z;simp only at Z;split at Z
   ·rename_i M;obtain⟨rfl,hle⟩:=M;simp only[yM]at Z;subst Z;have Q:((l.drop off).take len).length=len:=by simp;omega
    cases z with
    |ref0=>simp only[yQ];exact p8 _ _
    |ref _ _ _ _ _ H b J hl hc hm hs=>
     by_cases hz:len=0
     ·subst hz;simp only[yQ];exact p8 _ _
     have C:=hS.objs o;rw[V]at C;cases C with
     |row0 _ h=>rw[h]at J;cases J
     |row _ _ b' c T O hb hsz R E h=>
      rw[J]at O;cases O;have F:∃d,d∈(l.drop off).take len:=by
       have:0<((l.drop off).take len).length:=xA;exact⟨_,kJ this⟩
      obtain⟨d0,G⟩:=F;have hs:s=sz:=by
       rw[<-N d0 G,R d0 (jS (gT G))]
      subst hs;have K:(off+len)*s<=c.size:=gY (yR _ hle) hsz;have hr:=GW (P:=P) (w:=w) (Y:=ownX ι X) (b:=b) (off:=off*s) (cap:=H) N (λ k=>c.getD (off*s+k) undef) (λ k hk=>by
       rw[Q]at hk;have U:off*s+k<c.size:=by rw[qN]at K;omega
       have A:c[off*s+k]? =some c[off*s+k]:=yC U;have L:c.getD (off*s+k) undef=c[off*s+k]:=by simp[Array.getD,U]
       simp only[L];exact⟨by rw[fE hb,A],E _ _ A⟩) (λ i d j e I hj=>by
       rw[qS]at I;split at I
       ·rename_i hil;rw[gC]at I;have hjs:j<s:=by rw[<-R d (uA I)];exact(uB.1 hj).1
        have U:(off+i)*s+j<c.size:=by
         have:(off+i+1)*s<=(off+len)*s:=yR _ xA;rw[qN]at this;omega
        have A:c[(off+i)*s+j]? =some c[(off+i)*s+j]:=yC U;have heq:off*s+(i*s+j)=(off+i)*s+j:=by rw[qN];omega
        simp only[heq];have L:c.getD ((off+i)*s+j) undef=c[(off+i)*s+j]:=by simp[Array.getD,U]
        rw[L];exact h (off+i) d j e _ I hj A
       ·cases I)
      rw[Q]at hr;exact hr
   ·cases Z
 |ptr o s i c=>simp[dB]at Z
 |ag q=>simp[dB]at Z
 |tup q=>simp[dB]at Z
 |fn f q=>simp[dB]at Z
end hold
section hold
variable {P:Program}{B X:Nat->Prop}{w0:W0}{w:World}{n:Nat}{S:St}{a:Act}{ι:Nat->Option Nat}{dst:Option Nat}{ty:TypeId}{pos:String}{af:Array Edge}{gd:Option (Nat×Bool)}
theorem Hn {t u ty' e R:TypeId}{Y:TypeInfo}(L:P.underlying t=some (.slice e))(K:P.underlying u=some (.slice R))(M:P.info? e=some Y)
  {g len cap m:Nat}{Z:Array Value}{T:TypeId}(N:w.heap[g]? =some (.cells Z T (0,0))){x:Value}{aJ:List Value}
  (J:∃b c,x= .slice b m c)(O:(Builtin.firstCells Y.size m x).run P w= .ok aJ.toArray w)(_hnl:aJ.length=m*Y.size)(Q:∀v∈aJ,v.oneCell'=true)
  (h:len+m<=cap)(U:len*Y.size+aJ.length<=Z.size):
  (Builtin.append_ #[t,u] ty' #[.slice (some ⟨g,0,none⟩) len cap,x]).run P w=
   .ok (.slice (some ⟨g,0,none⟩) (len+m) cap) (w.setRow g (Z.toList.take (len*Y.size)++aJ++Z.toList.drop (len*Y.size+aJ.length)).toArray):=by
 obtain⟨b,c,rfl⟩:=J;have V:=run_storeCells_at P g (len*Y.size) T aJ 0 Z w N xA Q;simp only[gX]at V;simp[Builtin.append_,run_underlying L,run_underlying K,sizeOf,typeInfo,M,Builtin.lenOf,h,O,gg,V]
theorem um {t u ty' e O:TypeId}{Z:TypeInfo}{z:Value}(J:P.underlying t=some (.slice e))(I:P.underlying u=some (.slice O))(L:P.info? e=some Z)(G:Z.zero=some z)
  {base:Option Addr}{len cap m:Nat}{x:Value}{olds aJ:List Value}
  (H:∃b c,x= .slice b m c)(K:(Builtin.firstCells Z.size len (.slice base len cap)).run P w.drew= .ok olds.toArray w.drew)(M:(Builtin.firstCells Z.size m x).run P w.drew= .ok aJ.toArray w.drew)
  (T:cap<len+m)(R:len+m<=1099511627776)(U:Z.bytes<=128):
  (Builtin.append_ #[t,u] ty' #[.slice base len cap,x]).run P w=
   .ok (.slice (some ⟨w.heap.size,0,none⟩) (len+m) (grownCap w (len+m) cap e)) (w.drew.alloc (.cells (olds.toArray++aJ.toArray++Builtin.zeroCells z.cells (grownCap w (len+m) cap e-(len+m))) e)):=by
 obtain⟨b,c,rfl⟩:=H;have Q:Builtin.nextslicecap (len+m) cap*Z.bytes<=281474976710656:=growslice_fits T (by
  have:(len+m)*Z.bytes<=1099511627776*128:=jW R U;omega)
 have N:¬(((len+m:Nat):Int)>IntKind.i64.max/\(False\/Z.bytes=0)):=by
  have:IntKind.i64.max=9223372036854775807:=xC;rw[this];omega
 have h:¬(len+m<=cap):=xA;have V:¬(281474976710656<Builtin.nextslicecap (len+m) cap*Z.bytes):=xA;have Y:IntKind.i64.max=9223372036854775807:=xC;simp[Builtin.append_,run_underlying J,run_underlying I,sizeOf,typeInfo,zeroValue,L,G,Builtin.lenOf,h,V,Question.forced,K,M,newRow,grownCap,Y];rw[if_neg xA];simp;rw[<-zT,Array.append_assoc]
theorem yv {objs:Nat->Ob}{st M Z:TyI}{s x:PV}(h:(ib objs dst st M Z s x).1):
  ∃xs t,dB objs x=some xs/\dst=some t/\objs t= .dead/\st.kind=1/\M.kind=1/\Z.zok=true/\Z.bytes<=128/\(∀d,d∈xs->d.cells.length=Z.size)/\
   ((∃o sz len cap l,s= .ref o sz 0 len cap/\objs o= .row sz l/\sz=Z.size/\len<=l.length/\len+xs.length<=1099511627776/\
     (ib objs dst st M Z s x).2={val:= .ref t sz 0 (len+xs.length) (len+xs.length),wr:=[(t, .row sz (l.take len++xs)),(o, .gone)],rd:=ew x})\/
    ((s= .nilS\/s= .z0)/\xs.length<=1099511627776/\
     (ib objs dst st M Z s x).2={val:= .ref t Z.size 0 xs.length xs.length,wr:=[(t, .row Z.size xs)],rd:=ew x})):=by
 unfold ib at h|-;cases K:dB objs x with
 |none=>rw[K]at h;exact h.elim
 |some xs=>
  rw[K]at h;cases dst with
  |none=>exact h.elim
  |some t=>
  cases s<;>try exact h.elim
  ·rename_i o sz G len cap;simp only at h|-;cases Y:objs o with
   |dead=>rw[Y]at h;exact h.elim
   |gone=>rw[Y]at h;exact h.elim
   |imap _=>rw[Y]at h;exact h.elim
   |iter _ _ _=>rw[Y]at h;exact h.elim
   |cells _=>rw[Y]at h;exact h.elim
   |row F l=>
    rw[Y]at h;simp only at h;obtain⟨U,T,R,Q,O,V,N,J,I,H,L⟩:=h;subst J;subst I;exact⟨xs,t,rfl,rfl,V,U,T,R,Q,O, .inl ⟨o,sz,len,cap,l,rfl,Y,N,H,L,rfl⟩⟩
  ·obtain⟨U,T,R,Q,O,V,N⟩:=h;exact⟨xs,t,rfl,rfl,V,U,T,R,Q,O, .inr ⟨.inl rfl,N,rfl⟩⟩
  ·obtain⟨U,T,R,Q,O,V,N⟩:=h;exact⟨xs,t,rfl,rfl,V,U,T,R,Q,O, .inr ⟨.inr rfl,N,rfl⟩⟩
theorem I5 {z:Array Value}{m:Nat}(T:∀v∈z.toList,v.oneCell'=true):∀(j:Nat) (v:Value),(Builtin.zeroCells z m)[j]? =some v->v.oneCell'=true:=by
 intro j v Z;unfold Builtin.zeroCells at Z;rw[zH]at Z;cases V:(Array.range (m*z.size))[j]? with
 |none=>rw[V]at Z;cases Z
 |some q=>
  rw[V]at Z;simp only[qB,yM]at Z;subst Z;have Y:j<m*z.size:=by have:=(gM.1 V).1;simpa using this
  have U:0<z.size:=by rcases qO z.size with h|h
                      · rw[h]at Y;simp at Y
                      · exact h
  have R:q%z.size<z.size:=Do _ U;rw[getElem!_pos z _ R];exact T _ xB
theorem Rh {Y:Nat->Prop}{sz k:Nat}{l xs:List D}{olds aJ:List Value}{zs:Array Value}(V:olds.length=l.length*sz)(Q:aJ.length=xs.length*sz)
  (M:∀d,d∈l++xs->d.cells.length=sz)(I:∀u∈olds,u.oneCell'=true)(J:∀u∈aJ,u.oneCell'=true)(H:∀(j:Nat) (v:Value),zs[j]? =some v->v.oneCell'=true)
  (O:∀(i:Nat) d (j:Nat) e u,l[i]? =some d->d.cells[j]? =some e->olds[i*sz+j]? =some u->D.At w Y e u)
  (R:∀(i:Nat) d (j:Nat) e u,xs[i]? =some d->d.cells[j]? =some e->aJ[i*sz+j]? =some u->D.At w Y e u)(F:zs.size=k):
  (olds.toArray++aJ.toArray++zs).size=(l++xs).length*sz+k/\(∀(j:Nat) (v:Value),(olds.toArray++aJ.toArray++zs)[j]? =some v->v.oneCell'=true)/\
  ∀(i:Nat) d (j:Nat) e v,(l++xs)[i]? =some d->d.cells[j]? =some e->(olds.toArray++aJ.toArray++zs)[i*sz+j]? =some v->D.At w Y e v:=by
 refine⟨by simp[V,Q,F,qN],λ j v h=>?_,λ i d j e v Z h U=>?_⟩
 ·rw[gZ,gZ]at h;split at h
  ·split at h
   ·exact I v (uA (by simpa using h))
   ·exact J v (uA (by simpa using h))
  ·exact H _ v h
 ·have T:=(uB.1 Z).1;have G:j<sz:=by rw[<-M d (uA Z)];exact(uB.1 h).1
  simp only[uH]at T;have K:i*sz+j<(l.length+xs.length)*sz:=by
   have:(i+1)*sz<=(l.length+xs.length)*sz:=yR _ T;rw[qN]at this;omega
  rw[qN]at K;rw[Aa (by simp[V,Q];omega),gZ]at U;simp only[zA,V,zG]at U;rw[jL]at Z;by_cases N:i<l.length
  ·rw[if_pos N]at Z;have:(i+1)*sz<=l.length*sz:=yR _ N;rw[qN]at this;rw[if_pos xA]at U;exact O i d j e v Z h U
  ·rw[if_neg N]at Z;have:l.length*sz<=i*sz:=yR _ xA;rw[if_neg xA]at U;have L:i*sz+j-l.length*sz=(i-l.length)*sz+j:=by rw[Nat.sub_mul];omega
   rw[L]at U;exact R (i-l.length) d j e v Z h U
end hold
def eK (l:List (Int×Int))(a:Int):Option Nat:=l.findIdx? λ p=>decide (p.1=a)
theorem D9 (a:Int):∀(l:List (Int×Int)) (Z:List MapEntry) (i:Nat),Z.map (λ e=>(e.key,e.val))=l.map (λ p=>(Value.int .i64 p.1,Value.int .i64 p.2))->
  Instr.findNow (.int .i64) (.int .i64 a) Z i=some ((eK l a).map λ j=>(i+j,Value.int .i64 (ct l a)))
 |[],[],i,_=>rfl
 |[],_::_,i,h=>by simp at h
 |_::_,[],i,h=>by simp at h
 |(x,y)::l,e::Z,i,h=>by
  simp only[uS,List.cons.injEq,Bw]at h;obtain⟨⟨V,U⟩,T⟩:=h;have Q:=D9 a l Z (i+1) T;have R:Instr.sameNow (.int .i64) (.int .i64 a) e.key=some (a==x):=by rw[V];simp[Instr.sameNow]
  rw[Instr.findNow,R];by_cases c:x=a
  ·subst c;simp[eK,jV,ct,U]
  ·have Y:(a==x)=false:=by simpa using λ h=>c h.symm
   rw[Y];simp only[Q,eK,jV,ct,uW c,qK,jH,if_neg c,Option.map_map]
   congr 2
   funext j
   simp only[Function.comp]
   congr 1
   omega
theorem Gy {a:Int}(c:Int):∀{l:List (Int×Int)},eK l a=none->iB l a c=l++[(a,c)]
 |[],_=>rfl
 |(x,y)::l,h=>by
  simp only[eK,jV]at h;by_cases Z:x=a
  ·simp[Z]at h
  ·have V:=Gy c (l:=l) (by
    simp only[Z,Au,qK,jH]at h;cases Y:eK l a with
    |none=>rfl
    |some j=>rw[eK]at Y;rw[Y]at h;cases h)
   simp[iB,Z,V]
theorem Gz {a:Int}(c:Int):∀{l:List (Int×Int)} {j:Nat},eK l a=some j->iB l a c=l.set j (a,c)/\j<l.length/\∃y,l[j]? =some (a,y)
 |[],j,h=>by simp[eK]at h
 |(x,y)::l,j,h=>by
  simp only[eK,jV]at h;by_cases Y:x=a
  ·subst Y;simp only[Co,if_true,yM]at h;subst h;exact⟨by simp[iB],xB,y,rfl⟩
  ·simp only[Y,Au,qK,jH]at h;cases Z:eK l a with
   |none=>rw[eK]at Z;rw[Z]at h;cases h
   |some i=>
    rw[eK]at Z;rw[Z]at h;cases h;obtain⟨V,T,z,U⟩:=Gz c (l:=l) (j:=i) Z;exact⟨by simp[iB,Y,V],by simp;omega,z,by simpa using U⟩
theorem Es {a:Int}:∀{l:List (Int×Int)},eK l a=none->ct l a=0
 |[],_=>rfl
 |(x,y)::l,h=>by
  simp only[eK,jV]at h;by_cases Z:x=a
  ·simp[Z]at h
  ·simp only[Z,Au,qK,jH]at h;rw[ct,if_neg Z];refine Es ?_;cases Y:eK l a with
   |none=>rfl
   |some j=>rw[eK]at Y;rw[Y]at h;cases h
section hold
variable {P:Program}{B X:Nat->Prop}{w0:W0}{w:World}{n:Nat}{S:St}{a:Act}{ι:Nat->Option Nat}{dst:Option Nat}{ty:TypeId}{pos:String}{af:Array Edge}{gd:Option (Nat×Bool)}
theorem yr {k:TypeId}(h:P.underlying k=some (.int .i64))(x:Int)(e:Bool):(Instr.checkKey e 10000 k (.int .i64 x)).run P w= .ok () w:=
 MapKept.run_checkKey h (by simp[MapKept.IsKey]) e 9999
theorem Hs {k:TypeId}(Y:P.underlying k=some (.int .i64)){x:Int}{l:List (Int×Int)}{Z:List MapEntry}(h:Z.map (λ e=>(e.key,e.val))=l.map (λ p=>(Value.int .i64 p.1,Value.int .i64 p.2))):
  (Instr.findKey k (.int .i64 x) Z).run P w= .ok ((eK l x).map λ j=>(j,Value.int .i64 (ct l x))) w:=by
 have:=D9 x l Z 0 h;simp only[yU]at this;exact MapKept.run_findKey Y this
theorem Sm (R:Hold B X w0 n S a w ι){T:TypeId}(O:∀t,dst=some t->t<n)(Y:(js (tyi P T) S.objs dst).1):
  bC P B X w0 n ⟨dst, .makeMap T none,ty,pos,af,gd⟩ (S.app dst (js (tyi P T) S.objs dst).2) a w:=by
 unfold js at Y|-;cases dst with
 |none=>exact Y.elim
 |some t=>
  obtain⟨_,h⟩:=Y;have Z:∀b,b<w.heap.size->(w.alloc (.map #[] 0)).heap[b]? =w.heap[b]? :=λ b Q=>(MapKept.heap_alloc w _).2 b Q
  have V:Ob.At (w.alloc (.map #[] 0)) (upd t (some w.heap.size) ι) X t (.imap []):= .imap [] w.heap.size #[] 0 (if_pos rfl) (MapKept.heap_alloc w _).1 ⟨rfl,rfl,rfl⟩;have U:=R.alloc h (w.alloc (.map #[] 0)) rfl rfl rfl xB Z _ V;refine⟨_,_,upd t (some w.heap.size) ι, .inl (by simp only[execOp];rfl),?_⟩;exact U.put (dst:=some t) (x:= .mp t) (v:= .map (some w.heap.size)) (λ u N=>by cases N;exact O t rfl) (.mp t w.heap.size (if_pos rfl))
theorem tM {o:Nat}{v:Value}(h:PV.At w ι X (.mp o) v):∃b,v= .map (some b)/\ι o=some b:=by
 cases h with
 |mp _ b Z=>exact⟨b,rfl,Z⟩
theorem pO (V:Hold B X w0 n S a w ι){o b:Nat}{l:List (Int×Int)}(R:S.objs o= .imap l)(Y:ι o=some b):
  ∃Z clock,w.heap[b]? =some (.map Z clock)/\EntOk Z clock l:=by
 have:=V.objs o;rw[R]at this;cases this with
 |imap _ Q Z clock h U T=>
  rw[Y]at h;cases h;exact⟨Z,clock,U,T⟩
theorem Sk (Z:Hold B X w0 n S a w ι){T:TypeId}{x y:Operand}(N:∀t,dst=some t->t<n)(F:aZ x=true)(E:aZ y=true)(h:(jr (tyi P T) S.objs (S.ev x) (S.ev y)).1):
  bC P B X w0 n ⟨dst, .lookup T x y false,ty,pos,af,gd⟩ (S.app dst (jr (tyi P T) S.objs (S.ev x) (S.ev y)).2) a w:=by
 have R:=Z.ev F;have Q:=Z.ev E;generalize S.ev x=p at h R|-;generalize S.ev y=q at h Q|-;unfold jr at h|-;split at h
 ·rename_i o k;split at h
  ·rename_i l I;obtain⟨z,e,i,H,U,K,C⟩:=tC h;obtain⟨b,G,V⟩:=tM R;obtain⟨A,clock,O,M⟩:=pO Z I V;have Y:=cP Q;have L:=Hs (w:=w) (P:=P) U (x:=k) M.kv;simp only;rw[pe];refine Z.goes N (v:= .int .i64 (ct l k)) ?_ (.d _ _ (.sc _ rfl));simp only[execOp,G,Y,Instr.lookup,Sem.run_bind,run_underlying H,Result.andThen_ok,MapKept.run_getObj_map O,Sem.run_pure,yr U,L];cases J:eK l k with
   |none=>simp[zeroValue,typeInfo,K,C,Es J,Result.andThen]
   |some j=>simp[Result.andThen]
  ·exact h.elim
 ·exact h.elim
theorem CQ {b:Nat}{Z:Array MapEntry}{clock:Nat}(h:w.heap[b]? =some (.map Z clock)):bsz w b=0:=by simp only[bsz,h]
theorem Ew (M:Hold B X w0 n S a w ι){o:Oper}(R:o.dst=none){q b:Nat}{I es':Array MapEntry}{clock clock':Nat}{l N:List (Int×Int)}(E:S.objs q= .imap l)(T:ι q=some b)(L:w.heap[b]? =some (.map I clock))
  (C:(execOp a.eval o).run P w= .ok .skip (ChangeMaps.setBlock w b (.map es' clock')))
  (K:EntOk es' clock' N):
  bC P B X w0 n o (S.app o.dst {val:= .unk,wr:=[(q, .imap N)]}) a w:=by
 have Z:S.objs q≠ .gone:=by rw[E];exact nofun
 have V:=ChangeMaps.heap_setBlock_same L (.map es' clock');have Q:∀i,i≠b->(ChangeMaps.setBlock w b (.map es' clock')).heap[i]? =w.heap[i]? :=λ i F=>ChangeMaps.heap_setBlock_other L _ F
 have H:=M.change (some b) q (.imap N) ι (ChangeMaps.setBlock w b (.map es' clock')) rfl rfl rfl (by simp[ChangeMaps.setBlock]) (λ _ _=>rfl) (λ _ h=>h)
  (λ O Y=>by
   cases Y;exact⟨⟨q,T⟩,λ A U G J=>U (M.inj A q b G Z J T),by rw[CQ L,CQ V]⟩)
  (λ O _ U=>Q O (λ K=>U (by rw[K])))
  (λ O Y=>⟨.inl ⟨Y,Z⟩,by simp only[ChangeMaps.setBlock,Array.size_setIfInBounds];exact(M.free q O Y).2⟩) (.imap N b es' clock' T V K)
 refine⟨undef,_,ι, .inr ⟨C,rfl⟩,?_⟩;rw[R];exact H
theorem Sp (R:Hold B X w0 n S a w ι){T:TypeId}{x y z:Operand}(O:dst=none)(hx:aZ x=true)(hy:aZ y=true)(hz:aZ z=true)(Z:(jt (tyi P T) S.objs (S.ev x) (S.ev y) (S.ev z)).1):
  bC P B X w0 n ⟨dst, .mapUpdate T x y z,ty,pos,af,gd⟩ (S.app dst (jt (tyi P T) S.objs (S.ev x) (S.ev y) (S.ev z)).2) a w:=by
 have E:=R.ev hx;have C:=R.ev hy;have A:=R.ev hz;generalize S.ev x=p at Z E|-;generalize S.ev y=q at Z C|-;generalize S.ev z=r at Z A|-;unfold jt at Z|-;split at Z
 ·rename_i o k v;split at Z
  ·rename_i l G;obtain⟨ke,e,i,s,H,hi,hiz⟩:=tC Z;obtain⟨b,hv,V⟩:=tM E;obtain⟨U,clock,Q,h⟩:=pO R G V;have L:=cP C;have J:=cP A;have N:=Hs (w:=w) (P:=P) H (x:=k) h.kv;simp only;cases I:eK l k with
   |none=>
    refine Ew R (o:=⟨dst, .mapUpdate T x y z,ty,pos,af,gd⟩) O (es':=U.push {key:= .int .i64 k,val:= .int .i64 v,born:=clock}) (clock':=clock+1) G V Q ?_ ?_
    ·rw[I]at N;simp[execOp,hv,L,J,Instr.mapUpdate,run_underlying s,MapKept.run_getObj_map Q,yr H,N,MapKept.run_setObj_map _ Q,Result.andThen,ChangeMaps.setBlock]
    ·rw[Gy v I];refine⟨by simp[h.kv],?_,by simp[h.clock]⟩;simp[h.born,qE,h.clock]
   |some j=>
    obtain⟨h1,h2,y0,h3⟩:=Gz v I;have F:U.size=l.length:=by have:=gL List.length h.kv;simpa using this
    have Y:U[j]? =some U[j]:=yC xA;have M:U[j].key= .int .i64 k:=by
     have:=gL (λ t=>t[j]?) h.kv;simp only[uJ,h3,qB,qY,Y,yM,Bw]at this;exact this.1
    refine Ew R (o:=⟨dst, .mapUpdate T x y z,ty,pos,af,gd⟩) O (es':=U.modify j λ e=>{e with key:= .int .i64 k,val:= .int .i64 v}) (clock':=clock) G V Q ?_ ?_
    ·rw[I]at N;simp only[qB]at N;simp[execOp,hv,L,J,Instr.mapUpdate,run_underlying s,MapKept.run_getObj_map Q,yr H,N,Y,M,MapKept.run_keyThatStays (show MapKept.IsKey (.int .i64) (.int .i64 k)from rfl),MapKept.run_setObj_map _ Q,Result.andThen,ChangeMaps.setBlock]
    ·rw[h1];refine⟨?_,?_,by rw[h.clock,yJ]⟩
     rotate_left
     ·rw[yJ,<-h.born];refine yX λ u=>?_
      simp only[uJ,qY,Array.getElem?_modify];by_cases c:j=u
      ·subst c;simp[Y]
      ·simp only[if_neg c]
     refine yX λ u=>?_
     have K:=gL (λ t=>t[u]?) h.kv;simp only[uJ,qY]at K;simp only[uJ,qY,Array.getElem?_modify,qF];by_cases c:j=u
     ·subst c;simp[Y,h2]
     ·simp only[if_neg c];exact K
  ·exact Z.elim
 ·exact Z.elim
theorem Si (Z:Hold B X w0 n S a w ι){T:TypeId}{x:Operand}{o:Nat}{l:List (Int×Int)}(N:∀t,dst=some t->t<n)(I:aZ x=true)(Y:S.ev x= .mp o)(L:S.objs o= .imap l)(O:(tyi P T).kind=7):
  bC P B X w0 n ⟨dst, .call ⟨.builtin .len,#[x],#[T]⟩,ty,pos,af,gd⟩ (S.app dst {val:= .int l.length,rd:=[o]}) a w:=by
 have U:=Z.ev I;rw[Y]at U;obtain⟨E,e,i,K,G,H,F⟩:=tC O;obtain⟨b,J,V⟩:=tM U;obtain⟨R,clock,Q,M⟩:=pO Z L V;have h:R.size=l.length:=by have:=gL List.length M.kv;simpa using this
 rw[pe];refine Z.goes N (v:= .int .i64 l.length) ?_ (.d _ _ (.sc _ rfl));simp[execOp,resolve,invoke,builtin,Builtin.len_,J,run_underlying K,MapKept.run_getObj_map Q,goInt,h,Result.andThen]
end hold
section hold
variable {P:Program}{B X:Nat->Prop}{w0:W0}{w:World}{n:Nat}{S:St}{a:Act}{ι:Nat->Option Nat}{dst:Option Nat}{ty:TypeId}{pos:String}{af:Array Edge}{gd:Option (Nat×Bool)}
theorem Sv (R:Hold B X w0 n S a w ι){T:TypeId}{x:Operand}(G:∀t,dst=some t->t<n)(C:aZ x=true)(Y:(ju (tyi P T) S.objs dst (S.ev x)).1):
  bC P B X w0 n ⟨dst, .range T x,ty,pos,af,gd⟩ (S.app dst (ju (tyi P T) S.objs dst (S.ev x)).2) a w:=by
 have K:=R.ev C;generalize S.ev x=p at Y K|-;unfold ju at Y|-;split at Y
 ·rename_i t o;split at Y
  ·rename_i l O;obtain⟨H,Z⟩:=Y;obtain⟨q,e,i,L,z,A,s⟩:=tC H;obtain⟨b,E,U⟩:=tM K;obtain⟨J,clock,Q,F⟩:=pO R O U;have M:o≠t:=λ h=>by subst h;rw[O]at Z;cases Z
   have V:=MapKept.heap_alloc w (.mapIter (some b) clock #[] clock);have N:Ob.At (w.alloc (.mapIter (some b) clock #[] clock)) (upd t (some w.heap.size) ι) X t (.iter o l.length []):=
    .iter o l.length [] w.heap.size b (if_pos rfl) ((if_neg M).trans U) (by rw[V.1,F.clock])
   have I:=R.alloc Z (w.alloc (.mapIter (some b) clock #[] clock)) rfl rfl rfl xB (λ b Q=>V.2 b Q) _ N;refine⟨_,_,upd t (some w.heap.size) ι, .inl (by simp only[execOp,E,Sem.run_bind,run_range_map w T _ _ b J clock L Q];rfl),?_⟩;simp only[O];exact I.put (dst:=some t) (x:= .ptr t 1 0 0) (v:= .pointer (some ⟨w.heap.size,0,none⟩)) (λ u L=>by cases L;exact G t rfl) (.ptr t 1 0 0 w.heap.size (if_pos rfl))
  ·exact Y.elim
 ·exact Y.elim
theorem Lw {Z:Array MapEntry}{clock:Nat}{l:List (Int×Int)}(h:EntOk Z clock l){j:Nat}(R:j<l.length):
  ∃e,Z.toList[j]? =some e/\e.born=j/\e.key= .int .i64 (l.getD j (0,0)).1/\e.val= .int .i64 (l.getD j (0,0)).2:=by
 have Q:Z.toList.length=l.length:=by have:=gL List.length h.kv;simpa using this
 have T:Z.toList[j]? =some (Z.toList[j]'xA):=uT _;have Y:=gL (λ t=>t[j]?) h.kv;have U:=gL (λ t=>t[j]?) h.born;have V:l[j]? =some (l.getD j (0,0)):=by rw[jI,uT R];rfl
 simp only[uJ,T,qB,V,yM,Bw,yZ R]at Y U;exact⟨_,T,U,Y.1,Y.2⟩
theorem LW {Z:Array MapEntry}{clock:Nat}{l:List (Int×Int)}(h:EntOk Z clock l){j:Nat}{e:MapEntry}(V:Z.toList[j]? =some e)(Y:e.born=j):Z.find? (·.born==j)=some e:=by
 have:=find_born e Z.toList (by rw[h.born];exact zI) (uA V);rw[Y]at this;rw[<-Array.find?_toList];exact this
theorem EV (V:Hold B X w0 n S a w ι){o b m k:Nat}{sn:List Nat}(R:S.objs o= .iter m k sn)(Y:ι o=some b):
  ∃Z,ι m=some Z/\w.heap[b]? =some (.mapIter (some Z) k sn.toArray k):=by
 have:=V.objs o;rw[R]at this;cases this with
 |iter _ _ _ Q Z h T U=>
  rw[Y]at h;cases h;exact⟨Z,T,U⟩
theorem Gw {o sz i c:Nat}{v:Value}(h:PV.At w ι X (.ptr o sz i c) v):∃b,v= .pointer (some ⟨b,i*sz+c,none⟩)/\ι o=some b:=by
 cases h with
 |ptr _ _ _ _ b Z=>exact⟨b,rfl,Z⟩
theorem Sc (V:Hold B X w0 n S a w ι){x:Operand}(Z:∀t,dst=some t->t<n)(s:aZ x=true)(h:(jq S.objs (S.ev x)).1):
  bC P B X w0 n ⟨dst, .entry x,ty,pos,af,gd⟩ (S.app dst (jq S.objs (S.ev x)).2) a w:=by
 have M:=V.ev s;generalize S.ev x=p at h M|-;unfold jq at h|-;split at h
 ·rename_i o sz;split at h
  ·rename_i m k q F;split at h
   ·rename_i l j A E;obtain⟨O,C⟩:=h;rw[pe];obtain⟨b,Y,N⟩:=Gw M;obtain⟨bm,z,H⟩:=EV V F N;obtain⟨es,clock,T,Q⟩:=pO V A z;obtain⟨e,L,K,J,I⟩:=Lw Q (j:=j) xA;have G:=LW Q L K;have R:clock=k:=by rw[Q.clock,O]
    have U:q.toArray.back?=some j:=by simp[E]
    refine V.goes Z (v:= .tuple #[e.key,e.val]) ?_ ?_
    ·simp only[execOp,Y,Instr.entry,getObj,Sem.run_bind,Sem.run,H,T,Result.andThen,U,G,R,jP,gX,bne_self_eq_false,qK,jH];rfl
    ·rw[J,I];refine .tup _ #[_,_] rfl λ i d v Z Y=>?_
     rcases i with _|_|i
     ·simp at Z Y;subst Z;subst Y;exact .d _ _ (.sc _ rfl)
     ·simp at Z Y;subst Z;subst Y;exact .d _ _ (.sc _ rfl)
     ·simp at Z
   ·exact h.elim
  ·exact h.elim
 ·exact h.elim
end hold
section hold
variable {P:Program}{B X:Nat->Prop}{w0:W0}{w:World}{n:Nat}{S:St}{a:Act}{ι:Nat->Option Nat}{dst:Option Nat}{ty:TypeId}{pos:String}{af:Array Edge}{gd:Option (Nat×Bool)}
theorem xK {o Z:Nat}{b:Nat}(h:ownX (upd o (some Z) ι) X b):ownX ι X b\/b=Z:=by
 rcases h with h|⟨V,h⟩
 ·exact .inl (.inl h)
 ·by_cases Y:V=o
  ·subst Y;rw[upd,if_pos rfl]at h;cases h;exact .inr rfl
  ·rw[upd,if_neg Y]at h;exact .inl (.inr ⟨V,h⟩)
theorem Ln :RowKit.Below w.heap.size w w.drew:=⟨rfl,rfl,rfl,uI _,λ _ _=>rfl⟩
theorem vm (hS:Hold B X w0 n S a w ι){o:Oper}{t:Nat}(V:o.dst=some t)(ht:t<n)(R:S.objs t= .dead){e:TypeId}{z:Value}{sz cap:Nat}{l xs:List D}{olds aJ:List Value}
  (hr:(execOp a.eval o).run P w= .ok (.value (.slice (some ⟨w.heap.size,0,none⟩) (l.length+xs.length) cap)) (w.drew.alloc (.cells (olds.toArray++aJ.toArray++Builtin.zeroCells z.cells (cap-(l.length+xs.length))) e)))
  (Y:l.length+xs.length<=cap)(J:cap<=maxLen)(s:z.cells.size=sz)(A:∀v∈z.cells.toList,v.oneCell'=true)
  (E:olds.length=l.length*sz)(H:aJ.length=xs.length*sz)(O:∀d,d∈l++xs->d.cells.length=sz)(G:∀u∈olds,u.oneCell'=true)(I:∀u∈aJ,u.oneCell'=true)
  (M:∀(i:Nat) d (j:Nat) e u,l[i]? =some d->d.cells[j]? =some e->olds[i*sz+j]? =some u->D.At w (ownX ι X) e u)
  (N:∀(i:Nat) d (j:Nat) e u,xs[i]? =some d->d.cells[j]? =some e->aJ[i*sz+j]? =some u->D.At w (ownX ι X) e u):
  bC P B X w0 n o (S.app o.dst {val:= .ref t sz 0 (l.length+xs.length) (l.length+xs.length),wr:=[(t, .row sz (l++xs))]}) a w:=by
 obtain⟨q,g2,g3⟩:=Rh (w:=w) (k:=(cap-(l.length+xs.length))*sz) E H O G I (I5 A) M N (by rw[size_zeroCells,s]);generalize Z:w.drew.alloc (.cells (olds.toArray++aJ.toArray++Builtin.zeroCells z.cells (cap-(l.length+xs.length))) e)=L at hr;generalize olds.toArray++aJ.toArray++Builtin.zeroCells z.cells (cap-(l.length+xs.length))=arr at*;have T:∀b,b<w.heap.size->L.heap[b]? =w.heap[b]? :=λ b Q=>by subst Z;exact heap_alloc_old w.drew _ Q
 have U:L.heap[w.heap.size]? =some (.cells arr e (0,0)):=by subst Z;exact heap_alloc_new w.drew _
 have C:L.heap.size=w.heap.size+1:=by subst Z;simp
 have F:Ob.At L (upd t (some w.heap.size) ι) X t (.row sz (l++xs)):=
  .row sz (l++xs) w.heap.size arr e (if_pos rfl) U (by rw[q];omega) O g2 λ i d j e v hi hj hv=>
   (g3 i d j e v hi hj hv).mono (λ b Q=>(xK Q).imp id (λ h=>xA)) (λ b Q _=>T b Q)
 have h1:=hS.alloc R L (by subst Z;rfl) (by subst Z;rfl) (by subst Z;rfl) C T _ F;refine⟨_,_,upd t (some w.heap.size) ι, .inl hr,?_⟩;have K:=h1.put (dst:=o.dst) (x:= .ref t sz 0 (l.length+xs.length) (l.length+xs.length)) (v:= .slice (some ⟨w.heap.size,0*sz,none⟩) (l.length+xs.length) cap) (λ u hu=>by rw[V]at hu;cases hu;exact ht)
  (.ref t sz 0 _ _ cap w.heap.size (if_pos rfl) Y Y J (by
   simp only[bsz,U,q,uH,yU,<-qN]
   congr 1;omega))
 rw[jP]at K;rw[V]at K|-;exact K
theorem bC.gone {o:Oper}{t q:Nat}{v:PV}{V:Ob}(U:t≠q)(h:bC P B X w0 n o (S.app o.dst {val:=v,wr:=[(t,V)]}) a w):
  bC P B X w0 n o (S.app o.dst {val:=v,wr:=[(t,V),(q, .gone)]}) a w:=by
 obtain⟨Q,O,T,Z,Y⟩:=h;refine⟨Q,O,T,Z,?_⟩;have R:=Y.gone q;have e:upd q Ob.gone (S.app o.dst {val:=v,wr:=[(t,V)]}).objs=(S.app o.dst {val:=v,wr:=[(t,V),(q, .gone)]}).objs:=by
  funext i
  simp only[St.app,wrs,upd];by_cases Z:i=q
  ·subst Z;rw[if_pos rfl,if_neg (λ h=>U h.symm),if_pos rfl]
  ·by_cases Y:i=t
   ·subst Y;rw[if_neg Z,if_pos rfl,if_pos rfl]
   ·simp only[if_neg Z,if_neg Y]
 rw[e]at R;exact R
theorem R0 (I:Hold B X w0 n S a w ι){t u:TypeId}{s x:Operand}(hd:∀t,dst=some t->t<n)(hs:aZ s=true)(hx:aZ x=true)
  (hc:(ib S.objs dst (tyi P t) (tyi P u) (tyi P (tyi P t).elem) (S.ev s) (S.ev x)).1):
  bC P B X w0 n ⟨dst, .call ⟨.builtin .append,#[s,x],#[t,u]⟩,ty,pos,af,gd⟩ (S.app dst (ib S.objs dst (tyi P t) (tyi P u) (tyi P (tyi P t).elem) (S.ev s) (S.ev x)).2) a w:=by
 obtain⟨xs,J,hxs,K,Y,hk1,hk2,hz,hby,hcl,hcase⟩:=yv hc;have ht'n:J<n:=hd J K;have ht:=gy hk1;have hu:=gy hk2;obtain⟨ie,z,E,hiz,hzs,V,hiby,hz1,hne,hzz,_⟩:=qq hz;generalize he:(tyi P (tyi P t).elem)=Z at*;have hps:=I.ev hs;have hpx:=I.ev hx;have hxr:=yg (P:=P) I hpx hxs hcl;have hSd:=I.ext (w':=w.drew) Ln;have hxrd:=yg (P:=P) hSd (hSd.ev hx) hxs hcl;obtain⟨xb,xc,aJ,hxv,hnl,hf,hn1,hnat⟩:=hxr;obtain⟨xb',xc',R,hxv',hnl',hf',hn1',hnat'⟩:=hxrd;have U:∀(sv:Value),a.eval s=sv->∀v w',(Builtin.append_ #[t,u] ty #[sv,a.eval x]).run P w= .ok v w'->
   (execOp a.eval ⟨dst, .call ⟨.builtin .append,#[s,x],#[t,u]⟩,ty,pos,af,gd⟩).run P w= .ok (.value v) w':=by
  intro sv hsv v w' hr;simp only[execOp,resolve,invoke,builtin,Sem.run_bind,Sem.run_pure,Result.andThen_ok,List.map_toArray,uS,uY,hsv,hr]
 have hxx:∃b c,a.eval x= .slice b xs.length c:=⟨xb,xc,hxv⟩;have rdrop:∀(q:St) (r:List Nat) (v:PV) (wr:List (Nat×Ob)),q.app dst {val:=v,wr:=wr,rd:=r}=q.app dst {val:=v,wr:=wr}:=λ q r v wr=>rfl
 rcases hcase with⟨o,sz,len,cap,l,hsv,hob,rfl,hlen,hroom,heq⟩|⟨hsv,hroom,heq⟩
 ·rw[heq,rdrop];rw[hsv]at hps;have hto:J≠o:=λ he=>by rw[he,hob]at Y;cases Y
  generalize M:a.eval s=va at hps;have hoo:=I.objs o;rw[hob]at hoo;cases hps with
  |ref0 _ _ _ base=>
   refine bC.gone (P:=P) (o:=⟨dst, .call ⟨.builtin .append,#[s,x],#[t,u]⟩,ty,pos,af,gd⟩) hto ?_;by_cases hm:xs.length=0
   ·have hx0:xs=[]:=qT hm;subst hx0;have hn0:aJ=[]:=qT (by simpa using hnl);subst hn0;have hr:(Builtin.append_ #[t,u] ty #[.slice base 0 0,a.eval x]).run P w= .ok (.slice base 0 0) w:=by
     rw[hxv]at hf|-;cases base with
     |none=>simp[Builtin.append_,run_underlying ht,run_underlying hu,sizeOf,typeInfo,E,Builtin.lenOf,V]at hf|-;simp[hf]
     |some b=>simp[Builtin.append_,run_underlying ht,run_underlying hu,sizeOf,typeInfo,E,Builtin.lenOf,V,storeCells]at hf|-;simp[hf,storeCells]
    have h1:Hold B X w0 n {env:=S.env,objs:=upd J (.row Z.size (l.take 0++[])) S.objs} a w ι:=
     I.change none J _ ι w rfl rfl rfl (uI _) (λ _ _=>rfl) (λ _ h=>h) (λ b N=>by cases N) (λ _ _ _=>rfl) (λ b N=>by rw[I.dead Y]at N;cases N) (.row0 _ (I.dead Y))
    refine⟨_,_,ι, .inl (U _ M _ _ hr),?_⟩;rw[K]at hd|-;exact h1.put (dst:=some J) hd (.ref0 J Z.size 0 base)
   ·have hr:=um (P:=P) (w:=w) (ty':=ty) ht hu E hiz (base:=base) (len:=0) (cap:=0) (m:=xs.length) (x:=a.eval x) (olds:=[]) (aJ:=R) ⟨xb,xc,hxv⟩
     (by cases base<;>simp[Builtin.firstCells,loadCells,loadCellsFrom]) (by rw[V];exact hf') xA xA xA
    have:=vm (P:=P) (o:=⟨dst, .call ⟨.builtin .append,#[s,x],#[t,u]⟩,ty,pos,af,gd⟩) I K ht'n Y (l:=[]) (xs:=xs) (olds:=[]) (aJ:=R) (sz:=Z.size) (z:=z) (e:=(tyi P t).elem) (cap:=grownCap w (0+xs.length) 0 (tyi P t).elem)
     (by simpa using U _ M _ _ hr) (by simpa using grownCap_ge w (0+xs.length) 0 (tyi P t).elem) (grownCap_le_maxLen w _ _ _ (by simp only[maxLen];omega)) hzs hz1 xB hnl' (by simpa using hcl) xB hn1' xB
     (λ i d j e v G O F=>(hnat' i d j e v G O F).mono (λ b N=> .inl N) (λ _ _ _=>rfl))
    simpa using this
  |ref _ _ _ _ _ Q b L hl hcc hm hss=>
   cases hoo with
   |row0 _ h=>rw[h]at L;cases L
   |row _ _ b' c T hι' N hsz hcl' hone h=>
    rw[L]at hι';cases hι';simp only[yU,bsz,N]at hss;have hlc:len*Z.size<=c.size:=gY (yR _ hlen) hsz
    have holds:(Builtin.firstCells Z.size len (.slice (some ⟨b,0,none⟩) len Q)).run P w.drew= .ok (c.toList.take (len*Z.size)).toArray w.drew:=by
     refine run_firstCells_some (P:=P) w.drew Z.size len ⟨b,0,none⟩ len Q _ (by simp;omega) (λ j v O=>?_);rw[qS]at O;split at O
     ·rw[gg,yU,fE (w:=w.drew) N];simpa using O
     ·cases O
    have hol:(c.toList.take (len*Z.size)).length=(l.take len).length*Z.size:=by
     simp only[yA,Bv,jF hlen];omega
    have hcl2:∀d,d∈l.take len++xs->d.cells.length=Z.size:=by
     intro d hd';rcases yP.1 hd' with hd'|hd'
     ·exact hcl' d (gT hd')
     ·exact hcl d hd'
    have hlt:(l.take len).length=len:=by simp;omega
    have hoat:∀(i:Nat) d (j:Nat) e v,(l.take len)[i]? =some d->d.cells[j]? =some e->(c.toList.take (len*Z.size))[i*Z.size+j]? =some v->D.At w (ownX ι X) e v:=by
     intro i d j e v G O F;rw[qS]at G F;split at G
     ·split at F
      ·exact h i d j e v G O (by simpa using F)
      ·cases F
     ·cases G
    have ho1:∀v∈c.toList.take (len*Z.size),v.oneCell'=true:=λ v F=>by
     obtain⟨j,O⟩:=qA (gT F);exact hone j v (by simpa using O)
    simp only[jP]at M;by_cases hfit:len+xs.length<=Q
    ·
     have A:len*Z.size+aJ.length<=c.size:=by rw[hnl,<-hss,<-qN];exact yR _ hfit
     have hr:=Hn (P:=P) (w:=w) (ty':=ty) ht hu E N (x:=a.eval x) (aJ:=aJ) (len:=len) (cap:=Q) ⟨xb,xc,hxv⟩ (by rw[V];exact hf) (by rw[V];exact hnl) hn1 hfit (by rw[V];exact A);rw[V]at hr;have hob':Ob.At (w.setRow b (c.toList.take (len*Z.size)++aJ++c.toList.drop (len*Z.size+aJ.length)).toArray) (upd J (some b) ι) X J (.row Z.size (l.take len++xs)):=by
      have hX1:∀b',ownX (upd J (some b) ι) X b'->ownX ι X b':=λ b' H=>(xK H).elim id (λ he=>he▸ .inr ⟨o,L⟩)
      refine .row _ _ b _ T (if_pos rfl) (setRow_heap w b c _ T (0,0) N) ?_ hcl2 (λ j v O=>?_) (λ i d j e v G O F=>?_)
      ·rw[f4 _ _ _ A,uH,hlt,qN];omega
      ·rw[lC _ _ _ A]at O;split at O
       ·exact hone j v O
       ·split at O
        ·exact hn1 v (uA O)
        ·exact hone j v O
      ·refine(D.At.store I L N (f4 _ _ _ A) ?_).sub hX1;have hil:=(uB.1 G).1;have hjs:j<Z.size:=by rw[<-hcl2 d (uA G)];exact(uB.1 O).1
       rw[lC _ _ _ A]at F;rw[jL,hlt]at G;rw[uH,hlt]at hil;by_cases hcs:i<len
       ·rw[if_pos hcs]at G;have:(i+1)*Z.size<=len*Z.size:=yR _ hcs;rw[qN]at this;rw[if_pos xA]at F;rw[qS,if_pos hcs]at G;exact h i d j e v G O F
       ·rw[if_neg hcs]at G;have h1:len*Z.size<=i*Z.size:=yR _ xA;have h2:(i+1)*Z.size<=(len+xs.length)*Z.size:=yR _ hil;rw[qN,qN]at h2;rw[if_neg xA,if_pos xA]at F;have heq2:i*Z.size+j-len*Z.size=(i-len)*Z.size+j:=by rw[Nat.sub_mul];omega
        rw[heq2]at F;exact hnat (i-len) d j e v G O F
     have h0:=I.gone o;have hdead0:({env:=S.env,objs:=upd o .gone S.objs}:St).objs J= .dead:=by simp only[upd,if_neg hto];exact Y
     have h1:=h0.change (some b) J (.row Z.size (l.take len++xs)) (upd J (some b) ι) (w.setRow b (c.toList.take (len*Z.size)++aJ++c.toList.drop (len*Z.size+aJ.length)).toArray) rfl rfl rfl xB
      (λ o' hne=>if_neg hne) (λ b' H=>by rw[h0.dead hdead0]at H;cases H)
      (λ b' H=>by
       cases H;refine⟨⟨o,L⟩,λ o' hne hg ho'=>?_,by simp only[bsz,N,setRow_heap w b c _ T (0,0) N,f4 _ _ _ A]⟩;have C:o'≠o:=λ he=>hg (by subst he;exact if_pos rfl)
       simp only[upd,if_neg C]at hg;exact C (I.inj o' o b hg (by rw[hob];simp) ho' L))
      (λ b' _ hne=>setRow_other w b b' _ (λ he=>hne (by rw[he])))
      (λ b' H=>by
       rw[upd,if_pos rfl]at H;cases H;refine⟨.inr (.inr ⟨⟨o,L⟩,λ o' hne hg ho'=>?_⟩),by rw[un];exact(I.free o b L).2⟩;have C:o'≠o:=λ he=>hg (by subst he;exact if_pos rfl)
       simp only[upd,if_neg C]at hg;exact C (I.inj o' o b hg (by rw[hob];simp) ho' L)) hob'
     refine⟨_,_,upd J (some b) ι, .inl (U _ M _ _ hr),?_⟩;have h2:=h1.put (dst:=dst) (x:= .ref J Z.size 0 (len+xs.length) (len+xs.length)) (v:= .slice (some ⟨b,0*Z.size,none⟩) (len+xs.length) Q) hd
      (.ref J Z.size 0 _ _ Q b (if_pos rfl) hfit hfit hm (by simp only[bsz,setRow_heap w b c _ T (0,0) N,f4 _ _ _ A,yU,hss]))
     rw[jP]at h2;exact h2
    ·
     refine bC.gone (P:=P) (o:=⟨dst, .call ⟨.builtin .append,#[s,x],#[t,u]⟩,ty,pos,af,gd⟩) hto ?_;have hr:=um (P:=P) (w:=w) (ty':=ty) ht hu E hiz (base:=some ⟨b,0,none⟩) (len:=len) (cap:=Q) (m:=xs.length) (x:=a.eval x) (olds:=c.toList.take (len*Z.size)) (aJ:=R) ⟨xb,xc,hxv⟩
      (by rw[V];exact holds) (by rw[V];exact hf') xA xA xA
     have:=vm (P:=P) (o:=⟨dst, .call ⟨.builtin .append,#[s,x],#[t,u]⟩,ty,pos,af,gd⟩) I K ht'n Y (l:=l.take len) (xs:=xs) (olds:=c.toList.take (len*Z.size)) (aJ:=R) (sz:=Z.size) (z:=z) (e:=(tyi P t).elem) (cap:=grownCap w (len+xs.length) Q (tyi P t).elem)
      (by rw[hlt];exact U _ M _ _ hr) (by rw[hlt];exact grownCap_ge w _ _ _) (grownCap_le_maxLen w _ _ _ (by simp only[maxLen];omega)) hzs hz1 hol hnl' hcl2 ho1 hn1' hoat
      (λ i d j e v G O F=>(hnat' i d j e v G O F).mono (λ b N=> .inl N) (λ _ _ _=>rfl))
     rw[hlt]at this;exact this
 ·rw[heq,rdrop];have M:∃base,a.eval s= .slice base 0 0:=by
   generalize a.eval s=va at hps;rcases hsv with h|h<;>rw[h]at hps<;>cases hps<;>exact⟨_,rfl⟩
  obtain⟨base,M⟩:=M;by_cases hm:xs.length=0
  ·have hx0:xs=[]:=qT hm;subst hx0;have hn0:aJ=[]:=qT (by simpa using hnl);subst hn0;have hr:(Builtin.append_ #[t,u] ty #[.slice base 0 0,a.eval x]).run P w= .ok (.slice base 0 0) w:=by
    rw[hxv]at hf|-;cases base with
    |none=>simp[Builtin.append_,run_underlying ht,run_underlying hu,sizeOf,typeInfo,E,Builtin.lenOf,V]at hf|-;simp[hf]
    |some b=>simp[Builtin.append_,run_underlying ht,run_underlying hu,sizeOf,typeInfo,E,Builtin.lenOf,V,storeCells]at hf|-;simp[hf,storeCells]
   have h1:Hold B X w0 n {env:=S.env,objs:=upd J (.row Z.size []) S.objs} a w ι:=
    I.change none J _ ι w rfl rfl rfl (uI _) (λ _ _=>rfl) (λ _ h=>h) (λ b N=>by cases N) (λ _ _ _=>rfl) (λ b N=>by rw[I.dead Y]at N;cases N) (.row0 _ (I.dead Y))
   refine⟨_,_,ι, .inl (U _ M _ _ hr),?_⟩;rw[K]at hd|-;exact h1.put (dst:=some J) hd (.ref0 J Z.size 0 base)
  ·have hr:=um (P:=P) (w:=w) (ty':=ty) ht hu E hiz (base:=base) (len:=0) (cap:=0) (m:=xs.length) (x:=a.eval x) (olds:=[]) (aJ:=R) ⟨xb,xc,hxv⟩
    (by cases base<;>simp[Builtin.firstCells,loadCells,loadCellsFrom]) (by rw[V];exact hf') xA xA xA
   have:=vm (P:=P) (o:=⟨dst, .call ⟨.builtin .append,#[s,x],#[t,u]⟩,ty,pos,af,gd⟩) I K ht'n Y (l:=[]) (xs:=xs) (olds:=[]) (aJ:=R) (sz:=Z.size) (z:=z) (e:=(tyi P t).elem) (cap:=grownCap w (0+xs.length) 0 (tyi P t).elem)
    (by simpa using U _ M _ _ hr) (by simpa using grownCap_ge w (0+xs.length) 0 (tyi P t).elem) (grownCap_le_maxLen w _ _ _ (by simp only[maxLen];omega)) hzs hz1 xB hnl' (by simpa using hcl) xB hn1' xB
    (λ i d j e v G O F=>(hnat' i d j e v G O F).mono (λ b N=> .inl N) (λ _ _ _=>rfl))
   simpa using this
end hold
section hold
variable {P:Program}{B X:Nat->Prop}{w0:W0}{w:World}{n:Nat}{S:St}{a:Act}{ι:Nat->Option Nat}{dst:Option Nat}{ty:TypeId}{pos:String}{af:Array Edge}{gd:Option (Nat×Bool)}
theorem EZ {t:TypeId}(h:(tyi P t).kind=8):P.underlying t=some .string:=by
 simp only[tyi]at h;cases Z:P.underlying t with
 |none=>rw[Z]at h;simp at h
 |some d=>rw[Z]at h;cases d<;>first|(simp at h;done)|(dsimp only at h;split at h<;>cases h;done)|rfl
theorem Kj {t:TypeId}(h:(tyi P t).bk=true):P.underlying t=some (.int .u8):=by
 simp only[tyi]at h;split at h
 ·assumption
 ·cases h
theorem ky (s:ByteArray):(dU s).length=s.size:=by simp[dU]
theorem SA (Z:Hold B X w0 n S a w ι){T:TypeId}{x i:Operand}(O:∀t,dst=some t->t<n)(J:aZ x=true)(L:aZ i=true)
  (h:(nL (tyi P T) (S.ev x) (S.ev i)).1):bC P B X w0 n ⟨dst, .index T x i,ty,pos,af,gd⟩ (S.app dst (nL (tyi P T) (S.ev x) (S.ev i)).2) a w:=by
 have V:=Z.ev J;have U:=Z.ev L;generalize S.ev x=p at h V;generalize S.ev i=q at h U;unfold nL at h|-;split at h
 ·rename_i s m;obtain⟨K,I,Y⟩:=h;simp only;rw[bH];have R:=rm V;have Q:=cP U;obtain⟨k,rfl⟩:∃k:Nat,m=k:=⟨m.toNat,xA⟩;simp only[uK]at Y|-;have M:s[k]? =some s[k]:=by simp[Y]
  have N:(dU s).getD k 0=(s[k].toNat:Int):=by
   rw[jI,dU,uJ];have:s.data.toList[k]? =some s[k]:=by
    rw[qY];exact yC Y
   rw[this];rfl
  rw[N];refine Z.goes (v:= .int .u8 (s[k].toNat:Int)) O ?_ (.d _ _ (.sc _ rfl));simp only[execOp,R,Q,Instr.index,Sem.run_bind,JV rfl,Result.andThen_ok,run_underlying (EZ K)];rw[if_pos (by omega:(0:Int)<=(k:Int)),uK,M];rfl
 ·exact h.elim
theorem Sa (N:Hold B X w0 n S a w ι){T U:TypeId}{x:Operand}(M:∀t,dst=some t->t<n)(z:aZ x=true)
  (Z:(nO (P.underlying T) (P.underlying U) (tyi P U) (tyi P (tyi P U).elem) (S.ev x)).1):bC P B X w0 n ⟨dst, .convert T U x,ty,pos,af,gd⟩ (S.app dst (nO (P.underlying T) (P.underlying U) (tyi P U) (tyi P (tyi P U).elem) (S.ev x)).2) a w:=by
 have G:=N.ev z;generalize S.ev x=p at Z G;cases Q:P.underlying T with
 |none=>rw[Q]at Z;exact Z.elim
 |some q=>
  cases J:P.underlying U with
  |none=>rw[Q,J]at Z;exact Z.elim
  |some d2=>
   rw[Q,J]at Z;unfold nO at Z|-;split at Z
   ·rename_i k j m Y K;cases Y;cases K;simp only;rw[bH];have Y:=m8 G;exact N.goes (v:= .int k (k.wrap m)) M (by simp only[execOp,Y,convert,Sem.run_bind,run_underlying Q,run_underlying J,Result.andThen_ok];rfl) (.d _ _ (.sc _ rfl))
   ·rename_i s Y K;cases Y;cases K;obtain⟨H,F,A⟩:=Z;simp only;rw[bH];have Y:=rm G;have C:=Lib.run_convert_string_bytes (P:=P) w T U (tyi P U).elem s Q (gy H) (Kj F);have I:=N.ext (w':=Lib.bytesWorld w (tyi P U).elem s) ⟨by simp[Lib.bytesWorld,World.freeze,World.alloc,World.drew,-World.alloc_eq,-World.drew_eq],by simp[Lib.bytesWorld,World.freeze,World.alloc,World.drew,-World.alloc_eq,-World.drew_eq],
     by simp[Lib.bytesWorld,World.freeze,World.alloc,World.drew,-World.alloc_eq,-World.drew_eq],by rw[Lib.bytesWorld_size];omega,λ k H=>Lib.bytesWorld_at_old w _ s k H⟩
    refine⟨.slice (some ⟨w.heap.size,0,none⟩) s.size (grownCap w s.size 0 (tyi P U).elem),_,ι, .inl (by simp only[execOp,Y,Sem.run_bind,C,Result.andThen_ok,Sem.run_pure]),I.put M (.d _ _ ?_)⟩;have O:grownCap w s.size 0 (tyi P U).elem<=maxLen/\s.size<=grownCap w s.size 0 (tyi P U).elem:=by
     simp only[roomy]at A;have:=Do (w.tape w.drawn (.appendCap s.size 0 (tyi P U).elem)) (show 0<2^63-s.size by omega);simp only[grownCap,maxLen,Question.cut];omega
    have:=D.At.sl (w:=Lib.bytesWorld w (tyi P U).elem s) (X:=ownX ι X) (fQ s) w.heap.size 0 (grownCap w s.size 0 (tyi P U).elem) 1 (by simp[fQ,ky,O.2]) O.1 (λ d M=>by
      obtain⟨b,_,rfl⟩:=uR.1 M;rfl) (λ i _=> .int .u8 ((dU s).getD i 0)) (λ i d j c R L=>?_) (λ i d j c R L=>?_)
    ·rw[show(fQ s).length=s.size by simp[fQ,ky]]at this;exact this
    ·have h:i<s.size:=by have:=(uB.1 R).1;simpa[fQ,ky]using this
     have V:(fQ s)[i]? =some (.sc (.int .u8 ((dU s).getD i 0))):=by
      rw[fQ,uJ,uT (by rw[ky];exact h),jI,uT (by rw[ky];exact h)];rfl
     rw[V]at R;cases R;cases j with
     |zero=>
      refine⟨?_,rfl,λ E=>?_⟩
      ·have:=Lib.bytesWorld_cell w (tyi P U).elem s i h;simp only[yU,kS,gX];rw[this];simp[dU,jI,h]
      ·have:=N.ownlt E;omega
     |succ j=>simp[D.cells]at L
    ·have h:i<s.size:=by have:=(uB.1 R).1;simpa[fQ,ky]using this
     have V:(fQ s)[i]? =some (.sc (.int .u8 ((dU s).getD i 0))):=by
      rw[fQ,uJ,uT (by rw[ky];exact h),jI,uT (by rw[ky];exact h)];rfl
     rw[V]at R;cases R;cases j with
     |zero=>cases L;exact .sc _ rfl
     |succ j=>simp[D.cells]at L
   ·exact Z.elim
end hold
end Go.PS
