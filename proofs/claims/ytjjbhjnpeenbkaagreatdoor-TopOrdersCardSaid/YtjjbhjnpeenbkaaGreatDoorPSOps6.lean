/- Aggregates, literals of slices, built-in functions. -/
import Derived.Test.YtjjbhjnpeenbkaaGreatDoorPSAt
import Derived.Great.BuildSlice
import Derived.Laws.MakeOwn
import Derived.Carry
import Derived.Laws.IdiomRangeMap
import Derived.Lib.ConvBytes
set_option linter.unusedSimpArgs false
set_option linter.unusedVariables false
set_option maxHeartbeats 16000000
namespace Go.PS
open Go
section hold
variable {P:Program}{B X:Nat->Prop}{w0:W0}{w:World}{n:Nat}{S:St}{a:Act}{ι:Nat->Option Nat}{dst:Option Nat}{ty:TypeId}{pos:String}{af:Array Edge}{gd:Option (Nat×Bool)}
theorem Zt9 (off:Nat):∀(vs:List Value) (k:Nat) (cs:Array Value),
  ((vs.zipIdx k).foldl (λ(cs:Array Value) (cj:Value×Nat)=>cs.setIfInBounds (off+cj.2) cj.1) cs).size=cs.size/\
  ∀j,off+k+vs.length<=cs.size->((vs.zipIdx k).foldl (λ(cs:Array Value) (cj:Value×Nat)=>cs.setIfInBounds (off+cj.2) cj.1) cs)[j]? =
   if j<off+k then cs[j]? else if j<off+k+vs.length then vs[j-(off+k)]? else cs[j]? :=by
 intro vs
 induction vs with
 |nil=>intro k cs;refine⟨rfl,λ j _=>?_⟩;simp;intro h1 h2;omega
 |cons v vs ih=>
  intro k cs;obtain⟨h1,h2⟩:=ih (k+1) (cs.setIfInBounds (off+k) v);simp only[List.zipIdx_cons,jB];refine⟨by rw[h1];simp,λ j hl=>?_⟩;rw[h2 j (by simp at hl|-;omega)];simp only[uV]at hl|-;by_cases c1:j<off+k
  ·rw[if_pos (by omega),if_pos c1,zQ (by omega)]
  ·by_cases c2:j=off+k
   ·subst c2;rw[if_pos (by omega),if_neg c1,if_pos (by omega),Ae (by omega)];simp
   ·rw[if_neg (by omega),if_neg c1];by_cases c3:j<off+k+(vs.length+1)
    ·rw[if_pos (by omega),if_pos c3,show j-(off+k)=(j-(off+(k+1)))+1 by omega,jW]
    ·rw[if_neg (by omega),if_neg c3,zQ (by omega)]
theorem Zox (off:Nat)(vs cs:Array Value)(hl:off+vs.size<=cs.size):
  (vs.zipIdx.foldl (λ(cs:Array Value) (cj:Value×Nat)=>cs.setIfInBounds (off+cj.2) cj.1) cs).size=cs.size/\
  ∀j,(vs.zipIdx.foldl (λ(cs:Array Value) (cj:Value×Nat)=>cs.setIfInBounds (off+cj.2) cj.1) cs)[j]? =
   if j<off then cs[j]? else if j<off+vs.size then vs[j-off]? else cs[j]? :=by
 have:=Zt9 off vs.toList 0 cs;rw[<-Array.foldl_toList,Array.toList_zipIdx];refine⟨this.1,λ j=>?_⟩;rw[this.2 j (by simpa using hl)];simp
def Zkq (w:World)(ι:Nat->Option Nat)(X:Nat->Prop)(cs:List PV)(arr:Array Value):Prop:=
 arr.size=cs.length/\(∀(j:Nat) (v:Value),arr[j]? =some v->v.oneCell'=true)/\∀(j:Nat) p v,cs[j]? =some p->arr[j]? =some v->PV.At w ι X p v
theorem ZtS (pl:Nat->Option (Nat×Nat)):∀(ps:List (Nat×PV)) (vs:List (Nat×Value)) (cs cs':List PV) (arr:Array Value),
  ps.length=vs.length->(∀(k:Nat) p v,ps[k]? =some p->vs[k]? =some v->p.1=v.1/\PV.At w ι X p.2 v.2)->Zkq w ι X cs arr->Zhj pl cs ps=some cs'->
  ∃arr',Instr.fill pl arr vs=some arr'/\Zkq w ι X cs' arr':=by
 intro ps
 induction ps with
 |nil=>
  intro vs cs cs' arr hl _ hc hf;cases vs with
  |nil=>cases hf;exact⟨arr,rfl,hc⟩
  |cons _ _=>cases hl
 |cons p ps ih=>
  intro vs cs cs' arr hl hr hc hf;cases vs with
  |nil=>cases hl
  |cons v vs=>
   obtain⟨i,x⟩:=p;obtain⟨i',y⟩:=v;obtain⟨hi,hxy⟩:=hr 0 _ _ rfl rfl;simp only at hi hxy;subst hi;simp only[Zhj]at hf;simp only[Instr.fill];cases hp:pl i with
   |none=>rw[hp]at hf;cases hf
   |some q=>
    obtain⟨off,sz⟩:=q;rw[hp]at hf;cases hxc:x.cells? with
    |none=>rw[hxc]at hf;cases hf
    |some xs=>
     rw[hxc]at hf;simp only at hf|-;split at hf
     ·rename_i hcond;obtain⟨h1,h2,h3⟩:=hxy.cells hxc;have hle:off+y.cells.size<=arr.size:=by rw[h1,hc.1];omega
      rw[if_neg (by simp only[qY,uG,not_or];omega)];obtain⟨f1,f2⟩:=Zox off y.cells arr hle;refine ih vs _ cs' _ (by simpa using hl) (λ k p v hk hv=>hr (k+1) p v (by simpa using hk) (by simpa using hv)) ⟨?_,?_,?_⟩ hf
      ·rw[f1,hc.1];simp[ZbE];omega
      ·intro j u hu;rw[f2]at hu;split at hu
       ·exact hc.2.1 j u hu
       ·split at hu
        ·exact h2 _ u hu
        ·exact hc.2.1 j u hu
      ·intro j q u hq hu;rw[f2]at hu;rw[Zif cs off xs (by omega)]at hq;split at hq
       ·rename_i c1;rw[if_pos c1]at hu;exact hc.2.2 j q u hq hu
       ·rename_i c1;rw[if_neg c1]at hu;split at hq
        ·rename_i c2;rw[if_pos (by omega)]at hu;exact h3 _ q u hq hu
        ·rename_i c2;rw[if_neg (by omega)]at hu;exact hc.2.2 j q u hq hu
     ·cases hf
theorem Zx9 (hS:Hold B X w0 n S a w ι){T:TypeId}{ps:Array (Nat×Operand)}(hd:∀t,dst=some t->t<n)(hx:∀p∈ps.toList,Zax p.2=true)
  (hc:(Zf6 (tyi P T) (ps.toList.map λ p=>(p.1,S.ev p.2))).1):
  ZaJ P B X w0 n ⟨dst, .build T ps,ty,pos,af,gd⟩ (S.app dst (Zf6 (tyi P T) (ps.toList.map λ p=>(p.1,S.ev p.2))).2) a w:=by
 unfold Zf6 at hc|-;cases hf:Zhj ((tyi P T).places[·]?) ((tyi P T).zero.map ZeN) (ps.toList.map λ p=>(p.1,S.ev p.2))with
 |none=>rw[hf]at hc;exact hc.elim
 |some cs=>
  rw[hf]at hc;obtain⟨hz,hb⟩:=hc;simp only;rw[ZaM];obtain⟨i,z,hi,hiz,hzs,hz1,hne,hzz⟩:=ZmX hz;have h0:Zkq w ι X ((tyi P T).zero.map ZeN) z.cells:=by
   refine⟨by simp[hzz],λ j v hj=>hz1 v (by simpa using gQ hj),λ j p v hj hv=>?_⟩;rw[hzz,uI,qM,hv]at hj;cases hj;exact Zjl (hz1 v (by simpa using gQ hv))
  obtain⟨arr,ha,hat⟩:=ZtS ((tyi P T).places[·]?) (ps.toList.map λ p=>(p.1,S.ev p.2)) (ps.toList.map λ p=>(p.1,a.eval p.2)) _ cs z.cells (by simp)
   (λ k p v hk hv=>by
    rw[uI]at hk hv;cases hp:ps.toList[k]? with
    |none=>rw[hp]at hk;cases hk
    |some q=>
     rw[hp]at hk hv;cases hk;cases hv;exact⟨rfl,hS.ev (hx q (uA hp))⟩) h0 hf
  have hbuilt:P.built T ((ps.map λ(i,x)=>(i,a.eval x))).toList=some arr:=by
   simp only[tyi]at hb ha;unfold Program.built;cases hu:P.underlying T with
   |none=>rw[hu]at hb;cases hb
   |some dd=>
    rw[hu]at hb ha;cases dd<;>simp only at hb ha<;>try (cases hb;done)
    rename_i fs;simp only[hi,hiz];cases hm:fs.toList.mapM (λ f=>(P.info? f.type).map λ i=>(f.offset,i.size))with
    |none=>rw[hm]at hb;cases hb
    |some pl=>
     rw[hm]at ha;simp only[yQ]at ha;simp only[Array.toList_map];rw[<-ha]
     congr 1
     funext k
     simp
  have hr:=Go.run_build (P:=P) w T (ps.map λ(i,x)=>(i,a.eval x)) arr hbuilt;exact hS.goes hd (by simp only[execOp,Sem.run_bind,hr,Result.andThen_ok,Sem.run_pure]) (.ag cs arr hat.1 hat.2.1 hat.2.2)
def Zg0 (w:World)(Y:Nat->Prop)(sz:Nat)(l:List D)(arr:Array Value):Prop:=
 arr.size=l.length*sz/\(∀d,d∈l->d.cells.length=sz)/\(∀(j:Nat) (v:Value),arr[j]? =some v->v.oneCell'=true)/\
 ∀(i:Nat) d (j:Nat) e v,l[i]? =some d->d.cells[j]? =some e->arr[i*sz+j]? =some v->D.At w Y e v
theorem Ztw (sz:Nat):∀(ps:List (Nat×Option D)) (vs:List (Nat×Value)) (l l':List D) (arr:Array Value),
  ps.length=vs.length->(∀(k:Nat) p v,ps[k]? =some p->vs[k]? =some v->p.1=v.1/\∀d,p.2=some d->D.At w (ownX ι X) d v.2)->Zg0 w (ownX ι X) sz l arr->Zfe sz l ps=some l'->
  ∃arr',Instr.fill (λ i=>some (i*sz,sz)) arr vs=some arr'/\Zg0 w (ownX ι X) sz l' arr'/\l'.length=l.length:=by
 intro ps
 induction ps with
 |nil=>
  intro vs l l' arr hl _ hc hf;cases vs with
  |nil=>simp[Zfe]at hf;subst hf;exact⟨arr,rfl,hc,rfl⟩
  |cons _ _=>cases hl
 |cons p ps ih=>
  intro vs l l' arr hl hr hc hf;cases vs with
  |nil=>cases hl
  |cons v vs=>
   obtain⟨i,x⟩:=p;obtain⟨i',y⟩:=v;obtain⟨hi,hxy⟩:=hr 0 _ _ rfl rfl;simp only at hi hxy;subst hi;cases x with
   |none=>simp[Zfe]at hf
   |some d=>
    simp only[Zfe]at hf;split at hf
    ·rename_i hcond;obtain⟨hlt,hsz,hnt⟩:=hcond;obtain⟨h1,h2,h3⟩:=(hxy d rfl).cells (by rintro q rfl;simp[D.notTup]at hnt);have hroom:i*sz+sz<=arr.size:=by
      have:(i+1)*sz<=l.length*sz:=yF _ hlt;rw[qE]at this;rw[hc.1];omega
     simp only[Instr.fill];rw[if_neg (by simp only[qY,uG,not_or];omega)];obtain⟨f1,f2⟩:=Zox (i*sz) y.cells arr (by omega)
     suffices hra:Zg0 w (ownX ι X) sz (l.set i d) (y.cells.zipIdx.foldl (λ(cs:Array Value) (cj:Value×Nat)=>cs.setIfInBounds (i*sz+cj.2) cj.1) arr) by
      obtain⟨arr',e1,e2,e3⟩:=ih vs (l.set i d) l' _ (by simpa using hl) (λ k p v hk hv=>hr (k+1) p v (by simpa using hk) (by simpa using hv)) hra hf;exact⟨arr',e1,e2,by simpa using e3⟩
     refine⟨?_,?_,?_,?_⟩
     ·rw[f1,hc.1,yL]
     ·intro e he;rcases kD he with he|rfl
      ·exact hc.2.1 e he
      ·exact hsz
     ·intro j u hu;rw[f2]at hu;split at hu
      ·exact hc.2.2.1 j u hu
      ·split at hu
       ·exact h2 _ u hu
       ·exact hc.2.2.1 j u hu
     ·intro k e j q u he hq hu;rw[f2]at hu;by_cases hk:k=i
      ·subst hk;rw[kW hlt]at he;cases he;have hjs:j<sz:=by rw[<-hsz];exact(uB.1 hq).1
       rw[if_neg (by omega),if_pos (by omega)]at hu;exact h3 j q u hq (by rw[show k*sz+j-k*sz=j by omega]at hu;exact hu)
      ·rw[kL (Ne.symm hk)]at he;have hjs:j<sz:=by rw[<-hc.2.1 e (uA he)];exact(uB.1 hq).1
       have hout:k*sz+j<i*sz\/i*sz+sz<=k*sz+j:=by
        rcases Nat.lt_or_gt_of_ne hk with hlt'|hgt
        ·left
         have:(k+1)*sz<=i*sz:=yF _ hlt';rw[qE]at this;omega
        ·right
         have:(i+1)*sz<=k*sz:=yF _ hgt;rw[qE]at this;omega
       rcases hout with ho|ho
       ·rw[if_pos ho]at hu;exact hc.2.2.2 k e j q u he hq hu
       ·rw[if_neg (by omega),if_neg (by omega)]at hu;exact hc.2.2.2 k e j q u he hq hu
    ·cases hf
theorem ZsQ {v:Value}{Y:Nat->Prop}(h:v.oneCell'=true):D.At w Y (cellD v) v:=by
 unfold cellD;split
 ·exact .slnil none 0
 ·exact .sc v h
theorem ZsR {v:Value}:(cellD v).cells=[cellD v]:=by
 unfold cellD;split<;>rfl
theorem ZvQ (agg:Bool)(vs:List Value)(h:agg=false->vs.length=1):(D.ofCells agg (vs.map cellD)).cells=vs.map cellD:=by
 unfold D.ofCells;cases agg with
 |true=>rfl
 |false=>
  have:=h rfl
  match vs,this with
  |[v],_=>exact ZsR
theorem Zrs {z:Array Value}{sz m:Nat}{agg:Bool}(hz:z.size=sz)(h1:∀v∈z.toList,v.oneCell'=true)(h0:sz≠0)(ha:agg=false->sz=1){Y:Nat->Prop}:
  Zg0 w Y sz (List.replicate m (.ofCells agg (z.toList.map cellD))) ((Array.range (m*sz)).map (λ k=>z[k%z.size]!)):=by
 have hcl:(D.ofCells agg (z.toList.map cellD)).cells=z.toList.map cellD:=ZvQ agg z.toList (λ h=>by simp[hz,ha h]);refine⟨by simp,λ d hd=>?_,λ j v hj=>?_,λ i d j e v hi he hv=>?_⟩
 ·rw[zO hd,hcl];simp[hz]
 ·rw[zE]at hj;cases hr:(Array.range (m*sz))[j]? with
  |none=>rw[hr]at hj;cases hj
  |some q=>
   rw[hr]at hj;simp only[yV,uZ]at hj;subst hj;have hlt:q%z.size<z.size:=Cn _ (by omega);rw[getElem!_pos z _ hlt];exact h1 _ (by simp)
 ·have hil:=(uB.1 hi).1;simp only[qV]at hil;rw[gI]at hi;split at hi
  ·cases hi;rw[hcl,uI]at he;cases hq:z.toList[j]? with
   |none=>rw[hq]at he;cases he
   |some q=>
    rw[hq]at he;cases he;have hjl:=(uB.1 hq).1;simp only[Am]at hjl;have hlt:i*sz+j<m*sz:=by
     have:(i+1)*sz<=m*sz:=yF _ hil;rw[qE]at this;omega
    rw[zE,Array.getElem?_range]at hv;simp only[hlt,if_true,yV,uZ]at hv;have hmod:(i*sz+j)%z.size=j:=by rw[hz,Bv,Nat.mul_add_mod];exact Cg (by omega)
    rw[hmod,getElem!_pos z j hjl]at hv;rw[qM,uT hjl]at hq;cases hq;subst hv;exact ZsQ (h1 _ (by simp))
  ·rename_i hn;exact absurd hil hn
end hold
section hold
variable {P:Program}{B X:Nat->Prop}{w0:W0}{w:World}{n:Nat}{S:St}{a:Act}{ι:Nat->Option Nat}{dst:Option Nat}{ty:TypeId}{pos:String}{af:Array Edge}{gd:Option (Nat×Bool)}
theorem Hold.ext (h:Hold B X w0 n S a w ι){w':World}(hb:RowKit.Below w.heap.size w w'):Hold B X w0 n S a w' ι:=by
 have h1:∀o b,ι o=some b->ι o=some b/\bsz w' b=bsz w b:=λ o b hob=>⟨hob,by simp only[bsz,hb.block b (h.free o b hob).2]⟩
 have h2:∀b,ownX ι X b->ownX ι X b\/w.heap.size<=b:=λ b hb=> .inl hb
 have h3:∀b,b<w.heap.size->¬ownX ι X b->w'.heap[b]? =w.heap[b]? :=λ b hlt _=>hb.block b hlt
 refine⟨h.size,h.defers,⟨hb.os.trans h.frame.os,hb.tape.trans h.frame.tape,hb.output.trans h.frame.output,gR h.frame.size hb.size,λ b hB=>?_⟩,h.hB,h.hXB,h.inj,
  λ o b hob=>⟨(h.free o b hob).1,gB (h.free o b hob).2 hb.size⟩,λ t=>(h.env t).move h1 h2 h3,λ o=>?_,λ o b hb0=>?_⟩
 ·rw[<-h.frame.keep b hB];exact hb.block b (gB (h.hB b hB) h.frame.size)
 ·exact(h.objs o).move rfl (λ _ b hob=>hb.block b (h.free o b hob).2) h1 h2 h3
 ·obtain⟨g1,g2,g3⟩:=h.stay o b hb0;exact⟨g1,g2,(h1 o b g2).2.trans g3⟩
theorem Hold.ownlt (h:Hold B X w0 n S a w ι){b:Nat}(hb:ownX ι X b):b<w.heap.size:=by
 rcases hb with hb|⟨o,hb⟩
 ·exact gB (h.hX b hb) h.frame.size
 ·exact(h.free o b hb).2
theorem ZmH {objs:Nat->Ob}:∀(k:Nat) (p:PV) (v:Value) (d:D),toD objs k p=some d->p.refs objs k=[]->PV.At w ι X p v->D.At w (ownX ι X) d v:=by
 intro k
 induction k with
 |zero=>intro p v d h;simp[toD]at h
 |succ k ih=>
  intro p v d h hr hp;have list:∀(cs:List PV) (ds:List D) (arr:Array Value),cs.mapM (toD objs k)=some ds->cs.flatMap (PV.refs objs k)=[]->
    (∀(j:Nat) p v,cs[j]? =some p->arr[j]? =some v->PV.At w ι X p v)->ds.length=cs.length/\∀(j:Nat) d v,ds[j]? =some d->arr[j]? =some v->D.At w (ownX ι X) d v:=by
   intro cs
   induction cs with
   |nil=>intro ds arr hm _ _;simp at hm;subst hm;simp
   |cons c cs ihc=>
    intro ds arr hm hf hat;simp only[jT]at hm;cases hc:toD objs k c with
    |none=>rw[hc]at hm;cases hm
    |some e=>
     rw[hc]at hm;cases hm2:cs.mapM (toD objs k)with
     |none=>rw[hm2]at hm;cases hm
     |some es=>
      rw[hm2]at hm;cases hm;simp only[gE,List.append_eq_nil_iff]at hf;obtain⟨g1,g2⟩:=ihc es (arr.extract 1 arr.size) hm2 hf.2 (λ j p v hj hv=>by
       rw[Array.getElem?_extract]at hv;split at hv
       ·exact hat (j+1) p v (by simpa using hj) (by rw[Nat.add_comm];exact hv)
       ·cases hv)
      refine⟨by simp[g1],λ j d v hj hv=>?_⟩;cases j with
      |zero=>simp at hj;subst hj;exact ih c v e hc hf.1 (hat 0 c v rfl hv)
      |succ j=>
       refine g2 j d v (by simpa using hj) ?_;have hlt:=(qX.1 hv).1;rw[Array.getElem?_extract];rw[if_pos (by simp;omega),Nat.add_comm];exact hv
  cases p with
  |d x=>simp[toD]at h;subst h;cases hp;assumption
  |nilS=>simp[toD]at h;subst h;cases hp;exact .slnil none 0
  |z0=>simp[toD]at h;subst h;cases hp;exact .slnil _ 0
  |unk=>simp[toD]at h
  |und=>simp[toD]at h
  |ab=>simp[toD]at h
  |mp _=>simp[toD]at h
  |ifp _ _=>simp[toD]at h
  |ref o sz off len cap=>
   exfalso;simp only[PV.refs]at hr;split at hr<;>simp at hr
  |ptr o sz i c=>
   exfalso;simp only[PV.refs]at hr;split at hr<;>simp at hr
  |ag cs=>
   simp only[toD]at h;cases hm:cs.mapM (toD objs k)with
   |none=>rw[hm]at h;cases h
   |some ds=>
    rw[hm]at h;cases h;cases hp with
    |ag _ arr hsz hone hat=>
     obtain⟨g1,g2⟩:=list cs ds arr hm (by simpa[PV.refs]using hr) hat;exact .ag ds arr (by omega) hone g2
  |tup cs=>
   simp only[toD]at h;cases hm:cs.mapM (toD objs k)with
   |none=>rw[hm]at h;cases h
   |some ds=>
    rw[hm]at h;cases h;cases hp with
    |tup _ arr hsz hat=>
     obtain⟨g1,g2⟩:=list cs ds arr hm (by simpa[PV.refs]using hr) hat;exact .tup ds arr (by omega) g2
  |fn f cs=>
   simp only[toD]at h;cases hm:cs.mapM (toD objs k)with
   |none=>rw[hm]at h;cases h
   |some ds=>
    rw[hm]at h;cases h;cases hp with
    |fn _ _ arr hsz hat=>
     obtain⟨g1,g2⟩:=list cs ds arr hm (by simpa[PV.refs]using hr) hat;exact .fn f ds arr (by omega) g2
theorem ZhO {t:TypeId}(h:(tyi P t).zok=true):∃i z,P.info? t=some i/\i.zero=some z/\z.cells.size=(tyi P t).size/\i.size=(tyi P t).size/\i.bytes=(tyi P t).bytes/\(∀v∈z.cells.toList,v.oneCell'=true)/\(tyi P t).size≠0/\(tyi P t).zero=z.cells.toList/\((tyi P t).agg=false->(tyi P t).size=1\/True):=by
 obtain⟨i,z,hi,hiz,hzs,hz1,hne,hzz⟩:=ZmX h;exact⟨i,z,hi,hiz,hzs,by simp[tyi,Program.cellsOf,hi],by simp[tyi,Program.bytesOf,hi],hz1,hne,hzz,λ _=> .inr trivial⟩
theorem Zyb (hS:Hold B X w0 n S a w ι){T:TypeId}{m:Nat}{ow:Bool}{ps:Array (Nat×Operand)}(hd:∀t,dst=some t->t<n)(hx:∀p∈ps.toList,Zax p.2=true)
  (hc:(Ze4 S.objs dst ow (tyi P T) (tyi P (tyi P T).elem) m (ps.toList.map λ p=>(p.1,S.ev p.2))).1):
  ZaJ P B X w0 n ⟨dst, .buildSlice T m ps,ty,pos,af,gd⟩ (S.app dst (Ze4 S.objs dst ow (tyi P T) (tyi P (tyi P T).elem) m (ps.toList.map λ p=>(p.1,S.ev p.2))).2) a w:=by
 unfold Ze4 at hc|-;generalize hls:Zfe (tyi P (tyi P T).elem).size (List.replicate m (.ofCells (tyi P (tyi P T).elem).agg ((tyi P (tyi P T).elem).zero.map cellD))) ((ps.toList.map λ p=>(p.1,S.ev p.2)).map λ p=>(p.1,toD S.objs 4 p.2))=res at hc|-;cases res with
 |none=>exact hc.elim
 |some l=>
  simp only at hc|-;have hmain:(tyi P T).kind=1/\(tyi P (tyi P T).elem).zok=true/\m*(tyi P (tyi P T).elem).size<=16777216/\((ps.toList.map λ p=>(p.1,S.ev p.2)).map (·.2)).flatMap (PV.refs S.objs 4)=[]:=by
   cases ow with
   |true=>
    cases dst with
    |none=>exact hc.elim
    |some t=>exact⟨hc.1,hc.2.1,hc.2.2.1,hc.2.2.2.1⟩
   |false=>exact hc
  obtain⟨hk,hz,hm,hrefs⟩:=hmain;have hu:=Zc6 hk;obtain⟨ie,z,hie,hiz,hzs,hisz,_,hz1,hne,hzz,_⟩:=ZhO hz;have hagg:=Zrt hz;generalize he:(tyi P (tyi P T).elem)=ety at*;have h0:Zg0 w (ownX ι X) ety.size (List.replicate m (.ofCells ety.agg (ety.zero.map cellD))) ((Array.range (m*ety.size)).map (λ k=>z.cells[k%z.cells.size]!)):=by
   rw[hzz];exact Zrs hzs hz1 hne hagg
  obtain⟨arr,ha,hat,hll⟩:=Ztw (w:=w) (ι:=ι) (X:=X) ety.size _ (ps.toList.map λ p=>(p.1,a.eval p.2)) _ l _ (by simp)
   (λ k p v hk hv=>by
    rw[uI]at hv;rw[gN,uI]at hk;cases hp:ps.toList[k]? with
    |none=>rw[hp]at hk;cases hk
    |some q=>
     rw[hp]at hk hv;cases hk;cases hv;refine⟨rfl,λ d hdd=>?_⟩;have hmem:q∈ps.toList:=uA hp;refine ZmH 4 (S.ev q.2) _ d hdd ?_ (hS.ev (hx q hmem));rw[Au]at hrefs;exact hrefs _ (by simp only[gN,uN,Function.comp];exact⟨q,hmem,rfl⟩)) h0 hls
  simp only[qV]at hll;have hpos:m*ie.size=0->False\/True:=λ _=> .inr trivial
  have hr:(Instr.buildSlice T m (ps.map λ(i,x)=>(i,a.eval x))).run P w= .ok (.slice (some ⟨w.heap.size,0,none⟩) m m) (w.alloc (.cells arr (tyi P T).elem)):=by
   by_cases hm0:m=0
   ·subst hm0;simp only[jI]at ha;simp only[Instr.buildSlice,Sem.run_bind,run_underlying hu,Result.andThen_ok,sizeOf,typeInfo,hie,run_program,Sem.run_pure,jI];have e0:∀f:Nat->Value,(Array.range 0).map f=#[]:=λ f=>Array.eq_empty_of_size_eq_zero (by simp)
    rw[e0]at ha;simp[hisz,newRow];rw[e0];have ha':Instr.fill (λ i=>some (i*ety.size,ety.size)) #[] (ps.toList.map λ(x:Nat×Operand)=>(x.1,a.eval x.2))=some arr:=ha;rw[ha'];simp
   ·have hz0:m*ie.size≠0:=by rw[hisz];exact Nat.mul_ne_zero hm0 hne
    simp only[Instr.buildSlice,Sem.run_bind,run_underlying hu,Result.andThen_ok,sizeOf,typeInfo,hie,run_program,Sem.run_pure,Sem.run_ite];rw[hisz]at hz0|-;simp only[show¬(m*ety.size>2^24) by omega,jE,Sem.run_pure,Result.andThen_ok,hz0,Sem.run_bind,zeroValue,typeInfo,hie,hiz,run_program];simp only[Array.toList_map];have ha':Instr.fill (λ i=>some (i*ety.size,ety.size)) ((Array.range (m*ety.size)).map (λ k=>z.cells[k%z.cells.size]!)) (ps.toList.map λ(i,x)=>(i,a.eval x))=some arr:=ha;rw[ha'];simp[newRow]
  have hrun:(execOp a.eval ⟨dst, .buildSlice T m ps,ty,pos,af,gd⟩).run P w= .ok (.value (.slice (some ⟨w.heap.size,0,none⟩) m m)) (w.alloc (.cells arr (tyi P T).elem)):=by
   simp only[execOp,Sem.run_bind,hr,Result.andThen_ok,Sem.run_pure]
  have hold:∀b,b<w.heap.size->(w.alloc (.cells arr (tyi P T).elem)).heap[b]? =w.heap[b]? :=λ b hb=>heap_alloc_old w _ hb
  have hmax:m<=maxLen:=by
   have:m*1<=m*ety.size:=Nat.mul_le_mul_left _ (by omega);simp only[maxLen];omega
  cases ow with
  |false=>
   simp only[qB,jE];rw[ZaM];have hS':=hS.ext (w':=w.alloc (.cells arr (tyi P T).elem)) ⟨rfl,rfl,rfl,by simp,hold⟩;refine⟨_,_,ι, .inl hrun,hS'.put hd (.d _ _ ?_)⟩;have:=D.At.sl (w:=w.alloc (.cells arr (tyi P T).elem)) (X:=ownX ι X) l w.heap.size 0 m ety.size (by omega) hmax hat.2.1 (λ i j=>arr.getD (i*ety.size+j) undef) (λ i d j c hi hj=>?_) (λ i d j c hi hj=>?_)
   ·rw[hll]at this;exact this
   ·have hil:=(uB.1 hi).1;have hjl:j<ety.size:=by rw[<-hat.2.1 d (uA hi)];exact(uB.1 hj).1
    have hlt:i*ety.size+j<arr.size:=by
     have:(i+1)*ety.size<=l.length*ety.size:=yF _ hil;rw[qE]at this;rw[hat.1];omega
    have hg:arr[i*ety.size+j]? =some arr[i*ety.size+j]:=uT hlt;have hgd:arr.getD (i*ety.size+j) undef=arr[i*ety.size+j]:=by simp[Array.getD,hlt]
    simp only[hgd];refine⟨?_,hat.2.2.1 _ _ hg,λ ho=>?_⟩
    ·rw[qO,ZcB (heap_alloc_new w _),hg]
    ·have:=hS.ownlt ho;omega
   ·have hil:=(uB.1 hi).1;have hjl:j<ety.size:=by rw[<-hat.2.1 d (uA hi)];exact(uB.1 hj).1
    have hlt:i*ety.size+j<arr.size:=by
     have:(i+1)*ety.size<=l.length*ety.size:=yF _ hil;rw[qE]at this;rw[hat.1];omega
    have hg:arr[i*ety.size+j]? =some arr[i*ety.size+j]:=uT hlt;have hgd:arr.getD (i*ety.size+j) undef=arr[i*ety.size+j]:=by simp[Array.getD,hlt]
    simp only[hgd];exact(hat.2.2.2 i d j c _ hi hj hg).mono (λ b hb=> .inl hb) (λ b hb _=>hold b hb)
  |true=>
   cases dst with
   |none=>exact hc.elim
   |some t=>
    have hdead:S.objs t= .dead:=hc.2.2.2.2;simp only[if_true];have hob:Ob.At (w.alloc (.cells arr (tyi P T).elem)) (upd t (some w.heap.size) ι) X t (.row ety.size l):=
     .row ety.size l w.heap.size arr (tyi P T).elem (if_pos rfl) (heap_alloc_new w _) (by rw[hat.1];exact uH _) hat.2.1 hat.2.2.1
      λ i d j e v hi hj hv=>(hat.2.2.2 i d j e v hi hj hv).alloc hS hdead hold
    have h1:=hS.alloc hdead (w.alloc (.cells arr (tyi P T).elem)) rfl rfl rfl (by simp) hold _ hob;refine⟨_,_,upd t (some w.heap.size) ι, .inl hrun,?_⟩;have h2:=h1.put (dst:=some t) (x:= .ref t ety.size 0 m m) (v:= .slice (some ⟨w.heap.size,0*ety.size,none⟩) m m) hd
     (.ref t ety.size 0 m m m w.heap.size (if_pos rfl) (uH _) (uH _) hmax (by simp only[bsz,heap_alloc_new w,hat.1,hll,qO]))
    rw[jI]at h2;exact h2
end hold
section hold
variable {P:Program}{B X:Nat->Prop}{w0:W0}{w:World}{n:Nat}{S:St}{a:Act}{ι:Nat->Option Nat}{dst:Option Nat}{ty:TypeId}{pos:String}{af:Array Edge}{gd:Option (Nat×Bool)}
theorem Zyo (hS:Hold B X w0 n S a w ι){fn:Fn}{fi ca:Array Operand}(hd:∀t,dst=some t->t<n)(hx:∀x∈ca.toList,Zax x=true)
  (hc:(Zge fn (fi.toList.map S.ev) (ca.toList.map S.ev)).1):ZaJ P B X w0 n ⟨dst, .makeFunc fn fi ca,ty,pos,af,gd⟩ (S.app dst (Zge fn (fi.toList.map S.ev) (ca.toList.map S.ev)).2) a w:=by
 unfold Zge at hc|-;split at hc
 ·rename_i f hfi;have hf0:fi=#[]:=by
   have:fi.toList=[]:=by simpa using hfi
   exact Array.toList_eq_nil_iff.1 this
  subst hf0;simp only;rw[ZaM];refine hS.goes (v:= .func (.func f) #[] (ca.map a.eval)) hd (by simp[execOp,Instr.makeFunc]) (.fn f _ _ (by simp) (λ j p v hj hv=>?_));rw[uI]at hj;rw[zE]at hv;simp only[qM]at hj;cases hq:ca[j]? with
  |none=>rw[hq]at hj;cases hj
  |some x=>
   rw[hq]at hj hv;cases hj;cases hv;exact hS.ev (hx x (by simpa using gQ hq))
 ·exact hc.elim
theorem Zyq (hS:Hold B X w0 n S a w ι){T:TypeId}{l c:Operand}(hd:∀t,dst=some t->t<n)(hl:Zax l=true)(hcc:Zax c=true)
  (hc:(Zfy (tyi P T) (tyi P (tyi P T).elem) S.objs dst (S.ev l) (S.ev c)).1):
  ZaJ P B X w0 n ⟨dst, .makeSlice T l c,ty,pos,af,gd⟩ (S.app dst (Zfy (tyi P T) (tyi P (tyi P T).elem) S.objs dst (S.ev l) (S.ev c)).2) a w:=by
 have h1:=hS.ev hl;have h2:=hS.ev hcc;unfold Zfy at hc|-;split at hc
 ·rename_i t m m' e1 e2;obtain⟨hk,hz,rfl,h0,hb,hm,hdead⟩:=hc;rw[e1]at h1;rw[e2]at h2;have v1:=Zbc h1;have v2:=Zbc h2;have hu:=Zc6 hk;obtain⟨ie,z,hie,hiz,hzs,hisz,hiby,hz1,hne,hzz,_⟩:=ZhO hz;have hagg:=Zrt hz;generalize he:(tyi P (tyi P T).elem)=ety at*;obtain⟨k,rfl⟩:∃k:Nat,m=k:=⟨m.toNat,by omega⟩;simp only[uQ];have hr:=run_make (P:=P) w T (tyi P T).elem ie z hu hie hiz .i64 .i64 (k:Int) (k:Int) h0 (gC _) (by rw[hiby];exact hb) hm;simp only[uQ]at hr;have h0':Zg0 w (ownX ι X) ety.size (List.replicate k (.ofCells ety.agg (ety.zero.map cellD))) (madeCells z.cells (k*ety.size)):=by
   rw[hzz];exact Zrs hzs hz1 hne hagg
  rw[hisz]at hr;have hz0:ZgP ety.zero=true->z.cells.toList=[.slice none 0 0]:=by
   intro h;rw[<-hzz];unfold ZgP at h;split at h
   ·assumption
   ·cases h
  have hsz1:ZgP ety.zero=true->ety.size=1:=by
   intro h;have:=qW List.length (hz0 h);simp at this;omega
  have hnil:ZgP ety.zero=true->∀(j:Nat) v,(madeCells z.cells (k*ety.size))[j]? =some v->v= .slice none 0 0:=by
   intro h j v hj;have hzc:z.cells=#[.slice none 0 0]:=by rw[<-Array.toList_inj];exact hz0 h
   have hm:v∈madeCells z.cells (k*ety.size):=gQ hj;have hme:madeCells z.cells (k*ety.size)=(Array.range (k*ety.size)).map (λ k=>z.cells[k%z.cells.size]!):=rfl;rw[hme,hzc]at hm;obtain⟨q,_,rfl⟩:=Array.mem_map.1 hm;have:q%(#[Value.slice none 0 0]:Array Value).size=0:=by simp[Nat.mod_one]
   rw[this];rfl
  generalize hmc:madeCells z.cells (k*ety.size)=arr at*;have hold:∀b,b<w.heap.size->(w.alloc (.cells arr (tyi P T).elem)).heap[b]? =w.heap[b]? :=λ b hb=>heap_alloc_old w _ hb
  have hob:Ob.At (w.alloc (.cells arr (tyi P T).elem)) (upd t (some w.heap.size) ι) X t (if ZgP ety.zero=true then .cells (List.replicate k .nilS)else .row ety.size (List.replicate k (.ofCells ety.agg (ety.zero.map cellD)))):=by
   split
   ·rename_i hnz;refine .cells _ w.heap.size arr (tyi P T).elem (if_pos rfl) (heap_alloc_new w _) (by rw[h0'.1,qV,qV,hsz1 hnz,jQ];exact uH _) h0'.2.2.1 λ j p v hj hv=>?_
    rw[hnil hnz j v hv,zO (uA hj)];exact .nilS
   ·exact .row ety.size _ w.heap.size arr (tyi P T).elem (if_pos rfl) (heap_alloc_new w _) (by rw[h0'.1];exact uH _) h0'.2.1 h0'.2.2.1 (λ i d j e v hi hj hv=>(h0'.2.2.2 i d j e v hi hj hv).alloc hS hdead hold)
  have h3:=hS.alloc hdead (w.alloc (.cells arr (tyi P T).elem)) rfl rfl rfl (by simp) hold _ hob;have hrun:(execOp a.eval ⟨some t, .makeSlice T l c,ty,pos,af,gd⟩).run P w= .ok (.value (.slice (some ⟨w.heap.size,0,none⟩) k k)) (w.alloc (.cells arr (tyi P T).elem)):=by
   simp only[execOp,v1,v2,Sem.run_bind,hr,Result.andThen_ok,Sem.run_pure]
  refine⟨_,_,upd t (some w.heap.size) ι, .inl hrun,?_⟩;have h4:=h3.put (dst:=some t) (x:= .ref t ety.size 0 k k) (v:= .slice (some ⟨w.heap.size,0*ety.size,none⟩) k k) hd
   (.ref t ety.size 0 k k k w.heap.size (if_pos rfl) (uH _) (uH _) (by simp only[maxLen];omega) (by simp only[bsz,heap_alloc_new w,h0'.1,qV,qO]))
  rw[jI]at h4;exact h4
 ·exact hc.elim
end hold
section hold
variable {P:Program}{B X:Nat->Prop}{w0:W0}{w:World}{n:Nat}{S:St}{a:Act}{ι:Nat->Option Nat}{dst:Option Nat}{ty:TypeId}{pos:String}{af:Array Edge}{gd:Option (Nat×Bool)}
theorem Zu2 {p:PV}{v:Value}{m:Nat}(h:PV.At w ι X p v)(hl:ZcO p=some m):∃b c,v= .slice b m c:=by
 cases h with
 |d x v h=>
  cases h with
  |slnil base cap=>cases hl;exact⟨_,_,rfl⟩
  |sl=>cases hl;exact⟨_,_,rfl⟩
  |_=>cases hl
 |ref=>cases hl;exact⟨_,_,rfl⟩
 |ref0=>cases hl;exact⟨_,_,rfl⟩
 |nilS=>cases hl;exact⟨_,_,rfl⟩
 |z0=>cases hl;exact⟨_,_,rfl⟩
 |_=>cases hl
def Zi2 (P:Program)(w:World)(Y:Nat->Prop)(sz:Nat)(xs:List D)(v:Value):Prop:=
 ∃(base:Option Addr) (cap:Nat) (Zal:List Value),v= .slice base xs.length cap/\Zal.length=xs.length*sz/\(Builtin.firstCells sz xs.length v).run P w= .ok Zal.toArray w/\(∀u∈Zal,u.oneCell'=true)/\
  ∀(i:Nat) d (j:Nat) e u,xs[i]? =some d->d.cells[j]? =some e->Zal[i*sz+j]? =some u->D.At w Y e u
theorem ZhA {Y:Nat->Prop}{sz:Nat}(base:Option Addr)(cap:Nat):Zi2 P w Y sz [] (.slice base 0 cap):=by
 refine⟨base,cap,[],rfl,by simp,?_,by simp,by simp⟩;cases base<;>simp[Builtin.firstCells,loadCells,loadCellsFrom]
theorem Zqc {Y:Nat->Prop}{sz:Nat}{xs:List D}{b off cap:Nat}(_hcl:∀d,d∈xs->d.cells.length=sz)(vals:Nat->Value)
  (hv:∀k,k<xs.length*sz->w.cell? ⟨b,off+k,none⟩=some (vals k)/\(vals k).oneCell'=true)
  (hat:∀(i:Nat) d (j:Nat) e,xs[i]? =some d->d.cells[j]? =some e->D.At w Y e (vals (i*sz+j))):Zi2 P w Y sz xs (.slice (some ⟨b,off,none⟩) xs.length cap):=by
 refine⟨_,_,(List.range (xs.length*sz)).map vals,rfl,by simp,?_,?_,?_⟩
 ·refine run_firstCells_some (P:=P) w sz xs.length ⟨b,off,none⟩ _ _ _ (by simp) (λ j v hj=>?_);rw[uI]at hj;rcases uF j (xs.length*sz)with hlt|hge
  ·rw[qQ hlt]at hj;cases hj;rw[ZcY];exact(hv j hlt).1
  ·rw[uP (by simpa using hge)]at hj;cases hj
 ·intro u hu;simp only[uN,yD]at hu;obtain⟨k,hk,rfl⟩:=hu;exact(hv k hk).2
 ·intro i d j e u hi hj hu;rw[uI]at hu;rcases uF (i*sz+j) (xs.length*sz)with hlt|hge
  ·rw[qQ hlt]at hu;cases hu;exact hat i d j e hi hj
  ·rw[uP (by simpa using hge)]at hu;cases hu
theorem Zn1 {l:Nat}{k sz:Nat}(h:k<l*sz):k/sz<l/\k%sz<sz/\k/sz*sz+k%sz=k:=by
 have h0:0<sz:=by rcases qT sz with rfl|h0;· simp at h
                  · exact h0
 exact⟨Nat.div_lt_of_lt_mul (by rw[Bv];exact h),Cn _ h0,by rw[Bv];exact Nat.div_add_mod k sz⟩
theorem ZwS {Y:Nat->Prop}{sz:Nat}{xs:List D}{v:Value}(h:D.At w Y (.sl xs) v)(hcl:∀d,d∈xs->d.cells.length=sz):Zi2 P w Y sz xs v:=by
 cases h with
 |slnil base cap=>exact ZhA base cap
 |sl l b off cap sz' hl hc hsz vals hv h=>
  cases xs with
  |nil=>exact ZhA _ _
  |cons x r=>
   have hs:sz'=sz:=by rw[<-hcl x (by simp)];exact(hsz x (by simp)).symm
   subst hs;have cellof:∀k,k<(x::r).length*sz'->∃d c,(x::r)[k/sz']? =some d/\d.cells[k%sz']? =some c:=by
    intro k hk;obtain⟨h1,h2,h3⟩:=Zn1 hk;have hd:(x::r)[k/sz']? =some ((x::r)[k/sz']):=uL h1;exact⟨_,_,hd,uL (by rw[hsz _ (jN h1)];exact h2)⟩
   refine Zqc hcl (λ k=>vals (k/sz') (k%sz')) (λ k hk=>?_) (λ i d j e hi hj=>?_)
   ·obtain⟨d,c,hd,hcc⟩:=cellof k hk;obtain⟨h1,h2,h3⟩:=Zn1 hk;have:=hv _ d _ c hd hcc;rw[jL,h3]at this;exact⟨this.1,this.2.1⟩
   ·have hj2:j<sz':=by rw[<-hsz d (uA hi)];exact(uB.1 hj).1
    have h0:0<sz':=by omega
    have e1:(i*sz'+j)/sz'=i:=by rw[Bv,Nat.mul_add_div h0,Nat.div_eq_of_lt hj2];rfl
    have e2:(i*sz'+j)%sz'=j:=by rw[Bv,Nat.mul_add_mod];exact Cg hj2
    simp only[e1,e2];exact h i d j e hi hj
theorem Zmb (hS:Hold B X w0 n S a w ι){p:PV}{v:Value}{xs:List D}{sz:Nat}(hp:PV.At w ι X p v)(hx:Zbx S.objs p=some xs)(hcl:∀d,d∈xs->d.cells.length=sz):
  Zi2 P w (ownX ι X) sz xs v:=by
 cases p with
 |d x=>cases x<;>simp[Zbx]at hx;subst hx;cases hp;exact ZwS (by assumption) hcl
 |nilS=>simp[Zbx]at hx;subst hx;cases hp;exact ZhA _ _
 |z0=>simp[Zbx]at hx;subst hx;cases hp;exact ZhA _ _
 |unk=>simp[Zbx]at hx
 |und=>simp[Zbx]at hx
 |ab=>simp[Zbx]at hx
 |mp _=>simp[Zbx]at hx
 |ifp _ _=>simp[Zbx]at hx
 |ref o sz' off len cap=>
  simp only[Zbx]at hx;cases hob:S.objs o with
  |dead=>rw[hob]at hx;cases hx
  |imap _=>rw[hob]at hx;cases hx
  |iter _ _ _=>rw[hob]at hx;cases hx
  |gone=>rw[hob]at hx;cases hx
  |cells cs=>rw[hob]at hx;cases hx
  |row sz'' l=>
   rw[hob]at hx;simp only at hx;split at hx
   ·rename_i hcond;obtain⟨rfl,hle⟩:=hcond;simp only[uZ]at hx;subst hx;have hlen:((l.drop off).take len).length=len:=by simp;omega
    cases hp with
    |ref0=>simp only[yY];exact ZhA _ _
    |ref _ _ _ _ _ capr b hι hl hc hm hs=>
     by_cases hz:len=0
     ·subst hz;simp only[yY];exact ZhA _ _
     have hoo:=hS.objs o;rw[hob]at hoo;cases hoo with
     |row0 _ h=>rw[h]at hι;cases hι
     |row _ _ b' c T hι' hb hsz hcl' hone h=>
      rw[hι]at hι';cases hι';have hmem:∃d,d∈(l.drop off).take len:=by
       have:0<((l.drop off).take len).length:=by omega
       exact⟨_,jN this⟩
      obtain⟨d0,hd0⟩:=hmem;have hs:sz'=sz:=by
       rw[<-hcl d0 hd0,hcl' d0 (gS (qR hd0))]
      subst hs;have hroom:(off+len)*sz'<=c.size:=gR (yF _ hle) hsz;have hr:=Zqc (P:=P) (w:=w) (Y:=ownX ι X) (b:=b) (off:=off*sz') (cap:=capr) hcl (λ k=>c.getD (off*sz'+k) undef) (λ k hk=>by
       rw[hlen]at hk;have hlt:off*sz'+k<c.size:=by rw[qE]at hroom;omega
       have hg:c[off*sz'+k]? =some c[off*sz'+k]:=uT hlt;have hgd:c.getD (off*sz'+k) undef=c[off*sz'+k]:=by simp[Array.getD,hlt]
       simp only[hgd];exact⟨by rw[ZcB hb,hg],hone _ _ hg⟩) (λ i d j e hi hj=>by
       rw[qC]at hi;split at hi
       ·rename_i hil;rw[qZ]at hi;have hjs:j<sz':=by rw[<-hcl' d (uA hi)];exact(uB.1 hj).1
        have hlt:(off+i)*sz'+j<c.size:=by
         have:(off+i+1)*sz'<=(off+len)*sz':=yF _ (by omega);rw[qE]at this;omega
        have hg:c[(off+i)*sz'+j]? =some c[(off+i)*sz'+j]:=uT hlt;have heq:off*sz'+(i*sz'+j)=(off+i)*sz'+j:=by rw[qE];omega
        simp only[heq];have hgd:c.getD ((off+i)*sz'+j) undef=c[(off+i)*sz'+j]:=by simp[Array.getD,hlt]
        rw[hgd];exact h (off+i) d j e _ hi hj hg
       ·cases hi)
      rw[hlen]at hr;exact hr
   ·cases hx
 |ptr o sz' i c=>simp[Zbx]at hx
 |ag cs=>simp[Zbx]at hx
 |tup cs=>simp[Zbx]at hx
 |fn f cs=>simp[Zbx]at hx
end hold
section hold
variable {P:Program}{B X:Nat->Prop}{w0:W0}{w:World}{n:Nat}{S:St}{a:Act}{ι:Nat->Option Nat}{dst:Option Nat}{ty:TypeId}{pos:String}{af:Array Edge}{gd:Option (Nat×Bool)}
theorem Zqs {t u ty' e e':TypeId}{ie:TypeInfo}(ht:P.underlying t=some (.slice e))(hu:P.underlying u=some (.slice e'))(hi:P.info? e=some ie)
  {g len cap m:Nat}{cur:Array Value}{T:TypeId}(hg:w.heap[g]? =some (.cells cur T (0,0))){x:Value}{Zal:List Value}
  (hx:∃b c,x= .slice b m c)(hf:(Builtin.firstCells ie.size m x).run P w= .ok Zal.toArray w)(_hnl:Zal.length=m*ie.size)(h1:∀v∈Zal,v.oneCell'=true)
  (hroom:len+m<=cap)(hfit:len*ie.size+Zal.length<=cur.size):
  (Builtin.append_ #[t,u] ty' #[.slice (some ⟨g,0,none⟩) len cap,x]).run P w=
   .ok (.slice (some ⟨g,0,none⟩) (len+m) cap) (w.setRow g (cur.toList.take (len*ie.size)++Zal++cur.toList.drop (len*ie.size+Zal.length)).toArray):=by
 obtain⟨b,c,rfl⟩:=hx;have hst:=run_storeCells_at P g (len*ie.size) T Zal 0 cur w hg (by omega) h1;simp only[gH]at hst;simp[Builtin.append_,run_underlying ht,run_underlying hu,sizeOf,typeInfo,hi,Builtin.lenOf,hroom,hf,ZcY,hst]
theorem Zj5 {t u ty' e e':TypeId}{ie:TypeInfo}{z:Value}(ht:P.underlying t=some (.slice e))(hu:P.underlying u=some (.slice e'))(hi:P.info? e=some ie)(hz:ie.zero=some z)
  {base:Option Addr}{len cap m:Nat}{x:Value}{olds Zal:List Value}
  (hx:∃b c,x= .slice b m c)(ho:(Builtin.firstCells ie.size len (.slice base len cap)).run P w.drew= .ok olds.toArray w.drew)(hf:(Builtin.firstCells ie.size m x).run P w.drew= .ok Zal.toArray w.drew)
  (hgr:cap<len+m)(hsm:len+m<=1099511627776)(hby:ie.bytes<=128):
  (Builtin.append_ #[t,u] ty' #[.slice base len cap,x]).run P w=
   .ok (.slice (some ⟨w.heap.size,0,none⟩) (len+m) (grownCap w (len+m) cap e)) (w.drew.alloc (.cells (olds.toArray++Zal.toArray++Builtin.zeroCells z.cells (grownCap w (len+m) cap e-(len+m))) e)):=by
 obtain⟨b,c,rfl⟩:=hx;have hfit:Builtin.nextslicecap (len+m) cap*ie.bytes<=281474976710656:=growslice_fits hgr (by
  have:(len+m)*ie.bytes<=1099511627776*128:=zF hsm hby;omega)
 have h63:¬(((len+m:Nat):Int)>IntKind.i64.max/\(False\/ie.bytes=0)):=by
  have:IntKind.i64.max=9223372036854775807:=by decide
  rw[this];omega
 have hroom:¬(len+m<=cap):=by omega
 have h48:¬(281474976710656<Builtin.nextslicecap (len+m) cap*ie.bytes):=by omega
 have hmax:IntKind.i64.max=9223372036854775807:=by decide
 simp[Builtin.append_,run_underlying ht,run_underlying hu,sizeOf,typeInfo,zeroValue,hi,hz,Builtin.lenOf,hroom,h48,Question.forced,ho,hf,newRow,grownCap,hmax];rw[if_neg (by omega)];simp;rw[<-kV,Array.append_assoc]
theorem Zmk {objs:Nat->Ob}{st xt ety:TyI}{s x:PV}(hc:(Zdc objs dst st xt ety s x).1):
  ∃xs t,Zbx objs x=some xs/\dst=some t/\objs t= .dead/\st.kind=1/\xt.kind=1/\ety.zok=true/\ety.bytes<=128/\(∀d,d∈xs->d.cells.length=ety.size)/\
   ((∃o sz len cap l,s= .ref o sz 0 len cap/\objs o= .row sz l/\sz=ety.size/\len<=l.length/\len+xs.length<=1099511627776/\
     (Zdc objs dst st xt ety s x).2={val:= .ref t sz 0 (len+xs.length) (len+xs.length),wr:=[(t, .row sz (l.take len++xs)),(o, .gone)],rd:=Zb9 x})\/
    ((s= .nilS\/s= .z0)/\xs.length<=1099511627776/\
     (Zdc objs dst st xt ety s x).2={val:= .ref t ety.size 0 xs.length xs.length,wr:=[(t, .row ety.size xs)],rd:=Zb9 x})):=by
 unfold Zdc at hc|-;cases hx:Zbx objs x with
 |none=>rw[hx]at hc;exact hc.elim
 |some xs=>
  rw[hx]at hc;cases dst with
  |none=>exact hc.elim
  |some t=>
  cases s<;>try exact hc.elim
  ·rename_i o sz off len cap;simp only at hc|-;cases ho:objs o with
   |dead=>rw[ho]at hc;exact hc.elim
   |gone=>rw[ho]at hc;exact hc.elim
   |imap _=>rw[ho]at hc;exact hc.elim
   |iter _ _ _=>rw[ho]at hc;exact hc.elim
   |cells _=>rw[ho]at hc;exact hc.elim
   |row sz' l=>
    rw[ho]at hc;simp only at hc;obtain⟨h1,h2,h3,h4,h5,h0,h6,h7,h8,h9,h10⟩:=hc;subst h7;subst h8;exact⟨xs,t,rfl,rfl,h0,h1,h2,h3,h4,h5, .inl ⟨o,sz,len,cap,l,rfl,ho,h6,h9,h10,rfl⟩⟩
  ·obtain⟨h1,h2,h3,h4,h5,h0,h6⟩:=hc;exact⟨xs,t,rfl,rfl,h0,h1,h2,h3,h4,h5, .inr ⟨.inl rfl,h6,rfl⟩⟩
  ·obtain⟨h1,h2,h3,h4,h5,h0,h6⟩:=hc;exact⟨xs,t,rfl,rfl,h0,h1,h2,h3,h4,h5, .inr ⟨.inr rfl,h6,rfl⟩⟩
theorem Zrr {z:Array Value}{m:Nat}(h1:∀v∈z.toList,v.oneCell'=true):∀(j:Nat) (v:Value),(Builtin.zeroCells z m)[j]? =some v->v.oneCell'=true:=by
 intro j v hj;unfold Builtin.zeroCells at hj;rw[zE]at hj;cases hr:(Array.range (m*z.size))[j]? with
 |none=>rw[hr]at hj;cases hj
 |some q=>
  rw[hr]at hj;simp only[yV,uZ]at hj;subst hj;have hlt:j<m*z.size:=by have:=(qX.1 hr).1;simpa using this
  have h0:0<z.size:=by rcases qT z.size with h|h
                       · rw[h]at hlt;simp at hlt
                       · exact h
  have hq:q%z.size<z.size:=Cn _ h0;rw[getElem!_pos z _ hq];exact h1 _ (by simp)
theorem Zxt {Y:Nat->Prop}{sz k:Nat}{l xs:List D}{olds Zal:List Value}{zs:Array Value}(hol:olds.length=l.length*sz)(hnl:Zal.length=xs.length*sz)
  (hcl:∀d,d∈l++xs->d.cells.length=sz)(ho1:∀u∈olds,u.oneCell'=true)(hn1:∀u∈Zal,u.oneCell'=true)(hz1:∀(j:Nat) (v:Value),zs[j]? =some v->v.oneCell'=true)
  (hoat:∀(i:Nat) d (j:Nat) e u,l[i]? =some d->d.cells[j]? =some e->olds[i*sz+j]? =some u->D.At w Y e u)
  (hnat:∀(i:Nat) d (j:Nat) e u,xs[i]? =some d->d.cells[j]? =some e->Zal[i*sz+j]? =some u->D.At w Y e u)(hk:zs.size=k):
  (olds.toArray++Zal.toArray++zs).size=(l++xs).length*sz+k/\(∀(j:Nat) (v:Value),(olds.toArray++Zal.toArray++zs)[j]? =some v->v.oneCell'=true)/\
  ∀(i:Nat) d (j:Nat) e v,(l++xs)[i]? =some d->d.cells[j]? =some e->(olds.toArray++Zal.toArray++zs)[i*sz+j]? =some v->D.At w Y e v:=by
 refine⟨by simp[hol,hnl,hk,qE],λ j v hj=>?_,λ i d j e v hi hj hv=>?_⟩
 ·rw[gJ,gJ]at hj;split at hj
  ·split at hj
   ·exact ho1 v (uA (by simpa using hj))
   ·exact hn1 v (uA (by simpa using hj))
  ·exact hz1 _ v hj
 ·have hil:=(uB.1 hi).1;have hjs:j<sz:=by rw[<-hcl d (uA hi)];exact(uB.1 hj).1
  simp only[uC]at hil;have hlt:i*sz+j<(l.length+xs.length)*sz:=by
   have:(i+1)*sz<=(l.length+xs.length)*sz:=yF _ hil;rw[qE]at this;omega
  rw[qE]at hlt;rw[zG (by simp[hol,hnl];omega),gJ]at hv;simp only[kA,hol,kH]at hv;rw[gT]at hi;by_cases hc:i<l.length
  ·rw[if_pos hc]at hi;have:(i+1)*sz<=l.length*sz:=yF _ hc;rw[qE]at this;rw[if_pos (by omega)]at hv;exact hoat i d j e v hi hj hv
  ·rw[if_neg hc]at hi;have:l.length*sz<=i*sz:=yF _ (by omega);rw[if_neg (by omega)]at hv;have heq:i*sz+j-l.length*sz=(i-l.length)*sz+j:=by rw[Nat.sub_mul];omega
   rw[heq]at hv;exact hnat (i-l.length) d j e v hi hj hv
end hold
def Zcf (l:List (Int×Int))(a:Int):Option Nat:=l.findIdx? λ p=>decide (p.1=a)
theorem Zoo (a:Int):∀(l:List (Int×Int)) (es:List MapEntry) (i:Nat),es.map (λ e=>(e.key,e.val))=l.map (λ p=>(Value.int .i64 p.1,Value.int .i64 p.2))->
  Instr.findNow (.int .i64) (.int .i64 a) es i=some ((Zcf l a).map λ j=>(i+j,Value.int .i64 (Zbp l a)))
 |[],[],i,_=>rfl
 |[],_::_,i,h=>by simp at h
 |_::_,[],i,h=>by simp at h
 |(x,y)::l,e::es,i,h=>by
  simp only[uX,List.cons.injEq,Bi]at h;obtain⟨⟨h1,h2⟩,h3⟩:=h;have ih:=Zoo a l es (i+1) h3;have hs:Instr.sameNow (.int .i64) (.int .i64 a) e.key=some (a==x):=by rw[h1];simp[Instr.sameNow]
  rw[Instr.findNow,hs];by_cases c:x=a
  ·subst c;simp[Zcf,jF,Zbp,h2]
  ·have c2:(a==x)=false:=by simpa using λ h=>c h.symm
   rw[c2];simp only[ih,Zcf,jF,Zbp,yC c,qB,jE,if_neg c,Option.map_map]
   congr 2
   funext j
   simp only[Function.comp]
   congr 1
   omega
theorem Zp1 {a:Int}(c:Int):∀{l:List (Int×Int)},Zcf l a=none->Zew l a c=l++[(a,c)]
 |[],_=>rfl
 |(x,y)::l,h=>by
  simp only[Zcf,jF]at h;by_cases hx:x=a
  ·simp[hx]at h
  ·have ih:=Zp1 c (l:=l) (by
    simp only[hx,Bu,qB,jE]at h;cases hf:Zcf l a with
    |none=>rfl
    |some j=>rw[Zcf]at hf;rw[hf]at h;cases h)
   simp[Zew,hx,ih]
theorem Zp2 {a:Int}(c:Int):∀{l:List (Int×Int)} {j:Nat},Zcf l a=some j->Zew l a c=l.set j (a,c)/\j<l.length/\∃y,l[j]? =some (a,y)
 |[],j,h=>by simp[Zcf]at h
 |(x,y)::l,j,h=>by
  simp only[Zcf,jF]at h;by_cases hx:x=a
  ·subst hx;simp only[Cd,if_true,uZ]at h;subst h;exact⟨by simp[Zew],by simp,y,rfl⟩
  ·simp only[hx,Bu,qB,jE]at h;cases hf:Zcf l a with
   |none=>rw[Zcf]at hf;rw[hf]at h;cases h
   |some i=>
    rw[Zcf]at hf;rw[hf]at h;cases h;obtain⟨h1,h2,z,h3⟩:=Zp2 c (l:=l) (j:=i) hf;exact⟨by simp[Zew,hx,h1],by simp;omega,z,by simpa using h3⟩
theorem ZoA {a:Int}:∀{l:List (Int×Int)},Zcf l a=none->Zbp l a=0
 |[],_=>rfl
 |(x,y)::l,h=>by
  simp only[Zcf,jF]at h;by_cases hx:x=a
  ·simp[hx]at h
  ·simp only[hx,Bu,qB,jE]at h;rw[Zbp,if_neg hx];refine ZoA ?_;cases hf:Zcf l a with
   |none=>rfl
   |some j=>rw[Zcf]at hf;rw[hf]at h;cases h
section hold
variable {P:Program}{B X:Nat->Prop}{w0:W0}{w:World}{n:Nat}{S:St}{a:Act}{ι:Nat->Option Nat}{dst:Option Nat}{ty:TypeId}{pos:String}{af:Array Edge}{gd:Option (Nat×Bool)}
theorem Zmh {k:TypeId}(hk:P.underlying k=some (.int .i64))(x:Int)(e:Bool):(Instr.checkKey e 10000 k (.int .i64 x)).run P w= .ok () w:=
 MapKept.run_checkKey hk (by simp[MapKept.IsKey]) e 9999
theorem Zqw {k:TypeId}(hk:P.underlying k=some (.int .i64)){x:Int}{l:List (Int×Int)}{es:List MapEntry}(h:es.map (λ e=>(e.key,e.val))=l.map (λ p=>(Value.int .i64 p.1,Value.int .i64 p.2))):
  (Instr.findKey k (.int .i64 x) es).run P w= .ok ((Zcf l x).map λ j=>(j,Value.int .i64 (Zbp l x))) w:=by
 have:=Zoo x l es 0 h;simp only[qO]at this;exact MapKept.run_findKey hk this
theorem Zyp (hS:Hold B X w0 n S a w ι){T:TypeId}(hd:∀t,dst=some t->t<n)(hc:(ZdO (tyi P T) S.objs dst).1):
  ZaJ P B X w0 n ⟨dst, .makeMap T none,ty,pos,af,gd⟩ (S.app dst (ZdO (tyi P T) S.objs dst).2) a w:=by
 unfold ZdO at hc|-;cases dst with
 |none=>exact hc.elim
 |some t=>
  obtain⟨_,hdead⟩:=hc;have hold:∀b,b<w.heap.size->(w.alloc (.map #[] 0)).heap[b]? =w.heap[b]? :=λ b hb=>(MapKept.heap_alloc w _).2 b hb
  have hob:Ob.At (w.alloc (.map #[] 0)) (upd t (some w.heap.size) ι) X t (.imap []):= .imap [] w.heap.size #[] 0 (if_pos rfl) (MapKept.heap_alloc w _).1 ⟨rfl,rfl,rfl⟩;have h1:=hS.alloc hdead (w.alloc (.map #[] 0)) rfl rfl rfl (by simp) hold _ hob;refine⟨_,_,upd t (some w.heap.size) ι, .inl (by simp only[execOp];rfl),?_⟩;exact h1.put (dst:=some t) (x:= .mp t) (v:= .map (some w.heap.size)) (λ u hu=>by cases hu;exact hd t rfl) (.mp t w.heap.size (if_pos rfl))
theorem ZjM {o:Nat}{v:Value}(h:PV.At w ι X (.mp o) v):∃b,v= .map (some b)/\ι o=some b:=by
 cases h with
 |mp _ b hι=>exact⟨b,rfl,hι⟩
theorem Ziq (hS:Hold B X w0 n S a w ι){o b:Nat}{l:List (Int×Int)}(ho:S.objs o= .imap l)(hι:ι o=some b):
  ∃es clock,w.heap[b]? =some (.map es clock)/\EntOk es clock l:=by
 have:=hS.objs o;rw[ho]at this;cases this with
 |imap _ b' es clock hι' hb he=>
  rw[hι]at hι';cases hι';exact⟨es,clock,hb,he⟩
theorem Zyn (hS:Hold B X w0 n S a w ι){T:TypeId}{x y:Operand}(hd:∀t,dst=some t->t<n)(hx:Zax x=true)(hy:Zax y=true)(hc:(ZdN (tyi P T) S.objs (S.ev x) (S.ev y)).1):
  ZaJ P B X w0 n ⟨dst, .lookup T x y false,ty,pos,af,gd⟩ (S.app dst (ZdN (tyi P T) S.objs (S.ev x) (S.ev y)).2) a w:=by
 have hp:=hS.ev hx;have hq:=hS.ev hy;generalize S.ev x=p at hc hp|-;generalize S.ev y=q at hc hq|-;unfold ZdN at hc|-;split at hc
 ·rename_i o k;split at hc
  ·rename_i l hl;obtain⟨ke,e,i,hu,hk,hi,hz⟩:=ZjD hc;obtain⟨b,hv,hι⟩:=ZjM hp;obtain⟨es,clock,hb,he⟩:=Ziq hS hl hι;have hkv:=Zbc hq;have hf:=Zqw (w:=w) (P:=P) hk (x:=k) he.kv;simp only;rw[Zg5];refine hS.goes hd (v:= .int .i64 (Zbp l k)) ?_ (.d _ _ (.sc _ rfl));simp only[execOp,hv,hkv,Instr.lookup,Sem.run_bind,run_underlying hu,Result.andThen_ok,MapKept.run_getObj_map hb,Sem.run_pure,Zmh hk,hf];cases hj:Zcf l k with
   |none=>simp[zeroValue,typeInfo,hi,hz,ZoA hj,Result.andThen]
   |some j=>simp[Result.andThen]
  ·exact hc.elim
 ·exact hc.elim
theorem ZnI {b:Nat}{es:Array MapEntry}{clock:Nat}(hb:w.heap[b]? =some (.map es clock)):bsz w b=0:=by simp only[bsz,hb]
theorem ZoD (hS:Hold B X w0 n S a w ι){o:Oper}(hdst:o.dst=none){q b:Nat}{es es':Array MapEntry}{clock clock':Nat}{l l':List (Int×Int)}(hq:S.objs q= .imap l)(hι:ι q=some b)(hb:w.heap[b]? =some (.map es clock))
  (hr:(execOp a.eval o).run P w= .ok .skip (ChangeMaps.setBlock w b (.map es' clock')))
  (he:EntOk es' clock' l'):
  ZaJ P B X w0 n o (S.app o.dst {val:= .unk,wr:=[(q, .imap l')]}) a w:=by
 have hlive:S.objs q≠ .gone:=by rw[hq];exact nofun
 have hnew:=ChangeMaps.heap_setBlock_same hb (.map es' clock');have hoth:∀i,i≠b->(ChangeMaps.setBlock w b (.map es' clock')).heap[i]? =w.heap[i]? :=λ i hi=>ChangeMaps.heap_setBlock_other hb _ hi
 have h1:=hS.change (some b) q (.imap l') ι (ChangeMaps.setBlock w b (.map es' clock')) rfl rfl rfl (by simp[ChangeMaps.setBlock]) (λ _ _=>rfl) (λ _ h=>h)
  (λ b' hb'=>by
   cases hb';exact⟨⟨q,hι⟩,λ o' hne hg ho'=>hne (hS.inj o' q b hg hlive ho' hι),by rw[ZnI hb,ZnI hnew]⟩)
  (λ b' _ hne=>hoth b' (λ he=>hne (by rw[he])))
  (λ b' hb'=>⟨.inl ⟨hb',hlive⟩,by simp only[ChangeMaps.setBlock,Array.size_setIfInBounds];exact(hS.free q b' hb').2⟩) (.imap l' b es' clock' hι hnew he)
 refine⟨undef,_,ι, .inr ⟨hr,rfl⟩,?_⟩;rw[hdst];exact h1
theorem Zyr (hS:Hold B X w0 n S a w ι){T:TypeId}{x y z:Operand}(hdn:dst=none)(hx:Zax x=true)(hy:Zax y=true)(hz:Zax z=true)(hc:(ZdP (tyi P T) S.objs (S.ev x) (S.ev y) (S.ev z)).1):
  ZaJ P B X w0 n ⟨dst, .mapUpdate T x y z,ty,pos,af,gd⟩ (S.app dst (ZdP (tyi P T) S.objs (S.ev x) (S.ev y) (S.ev z)).2) a w:=by
 have hp:=hS.ev hx;have hq:=hS.ev hy;have hs:=hS.ev hz;generalize S.ev x=p at hc hp|-;generalize S.ev y=q at hc hq|-;generalize S.ev z=r at hc hs|-;unfold ZdP at hc|-;split at hc
 ·rename_i o k v;split at hc
  ·rename_i l hl;obtain⟨ke,e,i,hu,hk,hi,hiz⟩:=ZjD hc;obtain⟨b,hv,hι⟩:=ZjM hp;obtain⟨es,clock,hb,he⟩:=Ziq hS hl hι;have hkv:=Zbc hq;have hvv:=Zbc hs;have hf:=Zqw (w:=w) (P:=P) hk (x:=k) he.kv;simp only;cases hj:Zcf l k with
   |none=>
    refine ZoD hS (o:=⟨dst, .mapUpdate T x y z,ty,pos,af,gd⟩) hdn (es':=es.push {key:= .int .i64 k,val:= .int .i64 v,born:=clock}) (clock':=clock+1) hl hι hb ?_ ?_
    ·rw[hj]at hf;simp[execOp,hv,hkv,hvv,Instr.mapUpdate,run_underlying hu,MapKept.run_getObj_map hb,Zmh hk,hf,MapKept.run_setObj_map _ hb,Result.andThen,ChangeMaps.setBlock]
    ·rw[Zp1 v hj];refine⟨by simp[he.kv],?_,by simp[he.clock]⟩;simp[he.born,gG,he.clock]
   |some j=>
    obtain⟨h1,h2,y0,h3⟩:=Zp2 v hj;have hlen:es.size=l.length:=by have:=qW List.length he.kv;simpa using this
    have hje:es[j]? =some es[j]:=uT (by omega);have hkey:es[j].key= .int .i64 k:=by
     have:=qW (λ t=>t[j]?) he.kv;simp only[uI,h3,yV,qM,hje,uZ,Bi]at this;exact this.1
    refine ZoD hS (o:=⟨dst, .mapUpdate T x y z,ty,pos,af,gd⟩) hdn (es':=es.modify j λ e=>{e with key:= .int .i64 k,val:= .int .i64 v}) (clock':=clock) hl hι hb ?_ ?_
    ·rw[hj]at hf;simp only[yV]at hf;simp[execOp,hv,hkv,hvv,Instr.mapUpdate,run_underlying hu,MapKept.run_getObj_map hb,Zmh hk,hf,hje,hkey,MapKept.run_keyThatStays (show MapKept.IsKey (.int .i64) (.int .i64 k)from rfl),MapKept.run_setObj_map _ hb,Result.andThen,ChangeMaps.setBlock]
    ·rw[h1];refine⟨?_,?_,by rw[he.clock,yL]⟩
     rotate_left
     ·rw[yL,<-he.born];refine qL λ u=>?_
      simp only[uI,qM,Array.getElem?_modify];by_cases c:j=u
      ·subst c;simp[hje]
      ·simp only[if_neg c]
     refine qL λ u=>?_
     have hu2:=qW (λ t=>t[u]?) he.kv;simp only[uI,qM]at hu2;simp only[uI,qM,Array.getElem?_modify,qD];by_cases c:j=u
     ·subst c;simp[hje,h2]
     ·simp only[if_neg c];exact hu2
  ·exact hc.elim
 ·exact hc.elim
theorem Zyl (hS:Hold B X w0 n S a w ι){T:TypeId}{x:Operand}{o:Nat}{l:List (Int×Int)}(hd:∀t,dst=some t->t<n)(hx:Zax x=true)(hp0:S.ev x= .mp o)(hl:S.objs o= .imap l)(hc:(tyi P T).kind=7):
  ZaJ P B X w0 n ⟨dst, .call ⟨.builtin .len,#[x],#[T]⟩,ty,pos,af,gd⟩ (S.app dst {val:= .int l.length,rd:=[o]}) a w:=by
 have hp:=hS.ev hx;rw[hp0]at hp;obtain⟨ke,e,i,hu,hk,hi,hz⟩:=ZjD hc;obtain⟨b,hv,hι⟩:=ZjM hp;obtain⟨es,clock,hb,he⟩:=Ziq hS hl hι;have hlen:es.size=l.length:=by have:=qW List.length he.kv;simpa using this
 rw[Zg5];refine hS.goes hd (v:= .int .i64 l.length) ?_ (.d _ _ (.sc _ rfl));simp[execOp,resolve,invoke,builtin,Builtin.len_,hv,run_underlying hu,MapKept.run_getObj_map hb,goInt,hlen,Result.andThen]
end hold
section hold
variable {P:Program}{B X:Nat->Prop}{w0:W0}{w:World}{n:Nat}{S:St}{a:Act}{ι:Nat->Option Nat}{dst:Option Nat}{ty:TypeId}{pos:String}{af:Array Edge}{gd:Option (Nat×Bool)}
theorem Zyv (hS:Hold B X w0 n S a w ι){T:TypeId}{x:Operand}(hd:∀t,dst=some t->t<n)(hx:Zax x=true)(hc:(ZdQ (tyi P T) S.objs dst (S.ev x)).1):
  ZaJ P B X w0 n ⟨dst, .range T x,ty,pos,af,gd⟩ (S.app dst (ZdQ (tyi P T) S.objs dst (S.ev x)).2) a w:=by
 have hp:=hS.ev hx;generalize S.ev x=p at hc hp|-;unfold ZdQ at hc|-;split at hc
 ·rename_i t o;split at hc
  ·rename_i l hl;obtain⟨h7,hdead⟩:=hc;obtain⟨ke,e,i,hu,hk,hi,hz⟩:=ZjD h7;obtain⟨b,hv,hι⟩:=ZjM hp;obtain⟨es,clock,hb,he⟩:=Ziq hS hl hι;have hto:o≠t:=λ h=>by subst h;rw[hl]at hdead;cases hdead
   have hal:=MapKept.heap_alloc w (.mapIter (some b) clock #[] clock);have hob:Ob.At (w.alloc (.mapIter (some b) clock #[] clock)) (upd t (some w.heap.size) ι) X t (.iter o l.length []):=
    .iter o l.length [] w.heap.size b (if_pos rfl) ((if_neg hto).trans hι) (by rw[hal.1,he.clock])
   have h1:=hS.alloc hdead (w.alloc (.mapIter (some b) clock #[] clock)) rfl rfl rfl (by simp) (λ b hb=>hal.2 b hb) _ hob;refine⟨_,_,upd t (some w.heap.size) ι, .inl (by simp only[execOp,hv,Sem.run_bind,run_range_map w T _ _ b es clock hu hb];rfl),?_⟩;simp only[hl];exact h1.put (dst:=some t) (x:= .ptr t 1 0 0) (v:= .pointer (some ⟨w.heap.size,0,none⟩)) (λ u hu=>by cases hu;exact hd t rfl) (.ptr t 1 0 0 w.heap.size (if_pos rfl))
  ·exact hc.elim
 ·exact hc.elim
theorem ZtB {es:Array MapEntry}{clock:Nat}{l:List (Int×Int)}(h:EntOk es clock l){j:Nat}(hj:j<l.length):
  ∃e,es.toList[j]? =some e/\e.born=j/\e.key= .int .i64 (l.getD j (0,0)).1/\e.val= .int .i64 (l.getD j (0,0)).2:=by
 have hl:es.toList.length=l.length:=by have:=qW List.length h.kv;simpa using this
 have he:es.toList[j]? =some (es.toList[j]'(by omega)):=uL _;have h1:=qW (λ t=>t[j]?) h.kv;have h2:=qW (λ t=>t[j]?) h.born;have hlj:l[j]? =some (l.getD j (0,0)):=by rw[jC,uL hj];rfl
 simp only[uI,he,yV,hlj,uZ,Bi,qQ hj]at h1 h2;exact⟨_,he,h2,h1.1,h1.2⟩
theorem ZtV {es:Array MapEntry}{clock:Nat}{l:List (Int×Int)}(h:EntOk es clock l){j:Nat}{e:MapEntry}(he:es.toList[j]? =some e)(hb:e.born=j):es.find? (·.born==j)=some e:=by
 have:=find_born e es.toList (by rw[h.born];exact zT) (uA he);rw[hb]at this;rw[<-Array.find?_toList];exact this
theorem ZuI (hS:Hold B X w0 n S a w ι){o b m k:Nat}{sn:List Nat}(ho:S.objs o= .iter m k sn)(hι:ι o=some b):
  ∃bm,ι m=some bm/\w.heap[b]? =some (.mapIter (some bm) k sn.toArray k):=by
 have:=hS.objs o;rw[ho]at this;cases this with
 |iter _ _ _ b' bm hι' hm hb=>
  rw[hι]at hι';cases hι';exact⟨bm,hm,hb⟩
theorem Zwx {o sz i c:Nat}{v:Value}(h:PV.At w ι X (.ptr o sz i c) v):∃b,v= .pointer (some ⟨b,i*sz+c,none⟩)/\ι o=some b:=by
 cases h with
 |ptr _ _ _ _ b hι=>exact⟨b,rfl,hι⟩
theorem Zyf (hS:Hold B X w0 n S a w ι){x:Operand}(hd:∀t,dst=some t->t<n)(hx:Zax x=true)(hc:(ZdM S.objs (S.ev x)).1):
  ZaJ P B X w0 n ⟨dst, .entry x,ty,pos,af,gd⟩ (S.app dst (ZdM S.objs (S.ev x)).2) a w:=by
 have hp:=hS.ev hx;generalize S.ev x=p at hc hp|-;unfold ZdM at hc|-;split at hc
 ·rename_i o sz;split at hc
  ·rename_i m k sn hi;split at hc
   ·rename_i l j hl hj;obtain⟨hlk,hjk⟩:=hc;rw[Zg5];obtain⟨b,hv,hι⟩:=Zwx hp;obtain⟨bm,hm,hb⟩:=ZuI hS hi hι;obtain⟨es,clock,hbm,he⟩:=Ziq hS hl hm;obtain⟨e,h1,h2,h3,h4⟩:=ZtB he (j:=j) (by omega);have hf:=ZtV he h1 h2;have hck:clock=k:=by rw[he.clock,hlk]
    have hbk:sn.toArray.back?=some j:=by simp[hj]
    refine hS.goes hd (v:= .tuple #[e.key,e.val]) ?_ ?_
    ·simp only[execOp,hv,Instr.entry,getObj,Sem.run_bind,Sem.run,hb,hbm,Result.andThen,hbk,hf,hck,jI,gH,bne_self_eq_false,qB,jE];rfl
    ·rw[h3,h4];refine .tup _ #[_,_] rfl λ i d v hd hv=>?_
     rcases i with _|_|i
     ·simp at hd hv;subst hd;subst hv;exact .d _ _ (.sc _ rfl)
     ·simp at hd hv;subst hd;subst hv;exact .d _ _ (.sc _ rfl)
     ·simp at hd
   ·exact hc.elim
  ·exact hc.elim
 ·exact hc.elim
end hold
section hold
variable {P:Program}{B X:Nat->Prop}{w0:W0}{w:World}{n:Nat}{S:St}{a:Act}{ι:Nat->Option Nat}{dst:Option Nat}{ty:TypeId}{pos:String}{af:Array Edge}{gd:Option (Nat×Bool)}
theorem ZlY {o b0:Nat}{b:Nat}(hb:ownX (upd o (some b0) ι) X b):ownX ι X b\/b=b0:=by
 rcases hb with hb|⟨o',hb⟩
 ·exact .inl (.inl hb)
 ·by_cases he:o'=o
  ·subst he;rw[upd,if_pos rfl]at hb;cases hb;exact .inr rfl
  ·rw[upd,if_neg he]at hb;exact .inl (.inr ⟨o',hb⟩)
theorem Ztu :RowKit.Below w.heap.size w w.drew:=⟨rfl,rfl,rfl,uH _,λ _ _=>rfl⟩
theorem ZkD (hS:Hold B X w0 n S a w ι){o:Oper}{t:Nat}(hdst:o.dst=some t)(ht:t<n)(hdead:S.objs t= .dead){e:TypeId}{z:Value}{sz cap:Nat}{l xs:List D}{olds Zal:List Value}
  (hr:(execOp a.eval o).run P w= .ok (.value (.slice (some ⟨w.heap.size,0,none⟩) (l.length+xs.length) cap)) (w.drew.alloc (.cells (olds.toArray++Zal.toArray++Builtin.zeroCells z.cells (cap-(l.length+xs.length))) e)))
  (hcap:l.length+xs.length<=cap)(hcm:cap<=maxLen)(hzs:z.cells.size=sz)(hz1:∀v∈z.cells.toList,v.oneCell'=true)
  (hol:olds.length=l.length*sz)(hnl:Zal.length=xs.length*sz)(hcl:∀d,d∈l++xs->d.cells.length=sz)(ho1:∀u∈olds,u.oneCell'=true)(hn1:∀u∈Zal,u.oneCell'=true)
  (hoat:∀(i:Nat) d (j:Nat) e u,l[i]? =some d->d.cells[j]? =some e->olds[i*sz+j]? =some u->D.At w (ownX ι X) e u)
  (hnat:∀(i:Nat) d (j:Nat) e u,xs[i]? =some d->d.cells[j]? =some e->Zal[i*sz+j]? =some u->D.At w (ownX ι X) e u):
  ZaJ P B X w0 n o (S.app o.dst {val:= .ref t sz 0 (l.length+xs.length) (l.length+xs.length),wr:=[(t, .row sz (l++xs))]}) a w:=by
 obtain⟨g1,g2,g3⟩:=Zxt (w:=w) (k:=(cap-(l.length+xs.length))*sz) hol hnl hcl ho1 hn1 (Zrr hz1) hoat hnat (by rw[size_zeroCells,hzs]);generalize hw':w.drew.alloc (.cells (olds.toArray++Zal.toArray++Builtin.zeroCells z.cells (cap-(l.length+xs.length))) e)=w' at hr;generalize olds.toArray++Zal.toArray++Builtin.zeroCells z.cells (cap-(l.length+xs.length))=arr at*;have hold:∀b,b<w.heap.size->w'.heap[b]? =w.heap[b]? :=λ b hb=>by subst hw';exact heap_alloc_old w.drew _ hb
 have hnew:w'.heap[w.heap.size]? =some (.cells arr e (0,0)):=by subst hw';exact heap_alloc_new w.drew _
 have hsz:w'.heap.size=w.heap.size+1:=by subst hw';simp
 have hob:Ob.At w' (upd t (some w.heap.size) ι) X t (.row sz (l++xs)):=
  .row sz (l++xs) w.heap.size arr e (if_pos rfl) hnew (by rw[g1];omega) hcl g2 λ i d j e v hi hj hv=>
   (g3 i d j e v hi hj hv).mono (λ b hb=>(ZlY hb).imp id (λ h=>by omega)) (λ b hb _=>hold b hb)
 have h1:=hS.alloc hdead w' (by subst hw';rfl) (by subst hw';rfl) (by subst hw';rfl) hsz hold _ hob;refine⟨_,_,upd t (some w.heap.size) ι, .inl hr,?_⟩;have h2:=h1.put (dst:=o.dst) (x:= .ref t sz 0 (l.length+xs.length) (l.length+xs.length)) (v:= .slice (some ⟨w.heap.size,0*sz,none⟩) (l.length+xs.length) cap) (λ u hu=>by rw[hdst]at hu;cases hu;exact ht)
  (.ref t sz 0 _ _ cap w.heap.size (if_pos rfl) hcap hcap hcm (by
   simp only[bsz,hnew,g1,uC,qO,<-qE]
   congr 1;omega))
 rw[jI]at h2;rw[hdst]at h2|-;exact h2
theorem ZaJ.gone {o:Oper}{t q:Nat}{v:PV}{ob:Ob}(hne:t≠q)(h:ZaJ P B X w0 n o (S.app o.dst {val:=v,wr:=[(t,ob)]}) a w):
  ZaJ P B X w0 n o (S.app o.dst {val:=v,wr:=[(t,ob),(q, .gone)]}) a w:=by
 obtain⟨v',w',ι',h1,h2⟩:=h;refine⟨v',w',ι',h1,?_⟩;have h3:=h2.gone q;have e:upd q Ob.gone (S.app o.dst {val:=v,wr:=[(t,ob)]}).objs=(S.app o.dst {val:=v,wr:=[(t,ob),(q, .gone)]}).objs:=by
  funext i
  simp only[St.app,wrs,upd];by_cases h1:i=q
  ·subst h1;rw[if_pos rfl,if_neg (λ h=>hne h.symm),if_pos rfl]
  ·by_cases h2:i=t
   ·subst h2;rw[if_neg h1,if_pos rfl,if_pos rfl]
   ·simp only[if_neg h1,if_neg h2]
 rw[e]at h3;exact h3
theorem Zx3 (hS:Hold B X w0 n S a w ι){t u:TypeId}{s x:Operand}(hd:∀t,dst=some t->t<n)(hs:Zax s=true)(hx:Zax x=true)
  (hc:(Zdc S.objs dst (tyi P t) (tyi P u) (tyi P (tyi P t).elem) (S.ev s) (S.ev x)).1):
  ZaJ P B X w0 n ⟨dst, .call ⟨.builtin .append,#[s,x],#[t,u]⟩,ty,pos,af,gd⟩ (S.app dst (Zdc S.objs dst (tyi P t) (tyi P u) (tyi P (tyi P t).elem) (S.ev s) (S.ev x)).2) a w:=by
 obtain⟨xs,t',hxs,hdst,hdead,hk1,hk2,hz,hby,hcl,hcase⟩:=Zmk hc;have ht'n:t'<n:=hd t' hdst;have ht:=Zc6 hk1;have hu:=Zc6 hk2;obtain⟨ie,z,hie,hiz,hzs,hisz,hiby,hz1,hne,hzz,_⟩:=ZhO hz;generalize he:(tyi P (tyi P t).elem)=ety at*;have hps:=hS.ev hs;have hpx:=hS.ev hx;have hxr:=Zmb (P:=P) hS hpx hxs hcl;have hSd:=hS.ext (w':=w.drew) Ztu;have hxrd:=Zmb (P:=P) hSd (hSd.ev hx) hxs hcl;obtain⟨xb,xc,Zal,hxv,hnl,hf,hn1,hnat⟩:=hxr;obtain⟨xb',xc',news',hxv',hnl',hf',hn1',hnat'⟩:=hxrd;have hexec:∀(sv:Value),a.eval s=sv->∀v w',(Builtin.append_ #[t,u] ty #[sv,a.eval x]).run P w= .ok v w'->
   (execOp a.eval ⟨dst, .call ⟨.builtin .append,#[s,x],#[t,u]⟩,ty,pos,af,gd⟩).run P w= .ok (.value v) w':=by
  intro sv hsv v w' hr;simp only[execOp,resolve,invoke,builtin,Sem.run_bind,Sem.run_pure,Result.andThen_ok,List.map_toArray,uX,yT,hsv,hr]
 have hxx:∃b c,a.eval x= .slice b xs.length c:=⟨xb,xc,hxv⟩;have rdrop:∀(q:St) (r:List Nat) (v:PV) (wr:List (Nat×Ob)),q.app dst {val:=v,wr:=wr,rd:=r}=q.app dst {val:=v,wr:=wr}:=λ q r v wr=>rfl
 rcases hcase with⟨o,sz,len,cap,l,hsv,hob,rfl,hlen,hroom,heq⟩|⟨hsv,hroom,heq⟩
 ·rw[heq,rdrop];rw[hsv]at hps;have hto:t'≠o:=λ he=>by rw[he,hob]at hdead;cases hdead
  generalize hva:a.eval s=va at hps;have hoo:=hS.objs o;rw[hob]at hoo;cases hps with
  |ref0 _ _ _ base=>
   refine ZaJ.gone (P:=P) (o:=⟨dst, .call ⟨.builtin .append,#[s,x],#[t,u]⟩,ty,pos,af,gd⟩) hto ?_;by_cases hm:xs.length=0
   ·have hx0:xs=[]:=qF hm;subst hx0;have hn0:Zal=[]:=qF (by simpa using hnl);subst hn0;have hr:(Builtin.append_ #[t,u] ty #[.slice base 0 0,a.eval x]).run P w= .ok (.slice base 0 0) w:=by
     rw[hxv]at hf|-;cases base with
     |none=>simp[Builtin.append_,run_underlying ht,run_underlying hu,sizeOf,typeInfo,hie,Builtin.lenOf,hisz]at hf|-;simp[hf]
     |some b=>simp[Builtin.append_,run_underlying ht,run_underlying hu,sizeOf,typeInfo,hie,Builtin.lenOf,hisz,storeCells]at hf|-;simp[hf,storeCells]
    have h1:Hold B X w0 n {env:=S.env,objs:=upd t' (.row ety.size (l.take 0++[])) S.objs} a w ι:=
     hS.change none t' _ ι w rfl rfl rfl (uH _) (λ _ _=>rfl) (λ _ h=>h) (λ b hb=>by cases hb) (λ _ _ _=>rfl) (λ b hb=>by rw[hS.dead hdead]at hb;cases hb) (.row0 _ (hS.dead hdead))
    refine⟨_,_,ι, .inl (hexec _ hva _ _ hr),?_⟩;rw[hdst]at hd|-;exact h1.put (dst:=some t') hd (.ref0 t' ety.size 0 base)
   ·have hr:=Zj5 (P:=P) (w:=w) (ty':=ty) ht hu hie hiz (base:=base) (len:=0) (cap:=0) (m:=xs.length) (x:=a.eval x) (olds:=[]) (Zal:=news') ⟨xb,xc,hxv⟩
     (by cases base<;>simp[Builtin.firstCells,loadCells,loadCellsFrom]) (by rw[hisz];exact hf') (by omega) (by omega) (by omega)
    have:=ZkD (P:=P) (o:=⟨dst, .call ⟨.builtin .append,#[s,x],#[t,u]⟩,ty,pos,af,gd⟩) hS hdst ht'n hdead (l:=[]) (xs:=xs) (olds:=[]) (Zal:=news') (sz:=ety.size) (z:=z) (e:=(tyi P t).elem) (cap:=grownCap w (0+xs.length) 0 (tyi P t).elem)
     (by simpa using hexec _ hva _ _ hr) (by simpa using grownCap_ge w (0+xs.length) 0 (tyi P t).elem) (grownCap_le_maxLen w _ _ _ (by simp only[maxLen];omega)) hzs hz1 (by simp) hnl' (by simpa using hcl) (by simp) hn1' (by simp)
     (λ i d j e v hi hj hv=>(hnat' i d j e v hi hj hv).mono (λ b hb=> .inl hb) (λ _ _ _=>rfl))
    simpa using this
  |ref _ _ _ _ _ capr b hι hl hcc hm hss=>
   cases hoo with
   |row0 _ h=>rw[h]at hι;cases hι
   |row _ _ b' c T hι' hb hsz hcl' hone h=>
    rw[hι]at hι';cases hι';simp only[qO,bsz,hb]at hss;have hlc:len*ety.size<=c.size:=gR (yF _ hlen) hsz
    have holds:(Builtin.firstCells ety.size len (.slice (some ⟨b,0,none⟩) len capr)).run P w.drew= .ok (c.toList.take (len*ety.size)).toArray w.drew:=by
     refine run_firstCells_some (P:=P) w.drew ety.size len ⟨b,0,none⟩ len capr _ (by simp;omega) (λ j v hj=>?_);rw[qC]at hj;split at hj
     ·rw[ZcY,qO,ZcB (w:=w.drew) hb];simpa using hj
     ·cases hj
    have hol:(c.toList.take (len*ety.size)).length=(l.take len).length*ety.size:=by
     simp only[uS,Am,jA hlen];omega
    have hcl2:∀d,d∈l.take len++xs->d.cells.length=ety.size:=by
     intro d hd';rcases yN.1 hd' with hd'|hd'
     ·exact hcl' d (qR hd')
     ·exact hcl d hd'
    have hlt:(l.take len).length=len:=by simp;omega
    have hoat:∀(i:Nat) d (j:Nat) e v,(l.take len)[i]? =some d->d.cells[j]? =some e->(c.toList.take (len*ety.size))[i*ety.size+j]? =some v->D.At w (ownX ι X) e v:=by
     intro i d j e v hi hj hv;rw[qC]at hi hv;split at hi
     ·split at hv
      ·exact h i d j e v hi hj (by simpa using hv)
      ·cases hv
     ·cases hi
    have ho1:∀v∈c.toList.take (len*ety.size),v.oneCell'=true:=λ v hv=>by
     obtain⟨j,hj⟩:=yW (qR hv);exact hone j v (by simpa using hj)
    simp only[jI]at hva;by_cases hfit:len+xs.length<=capr
    ·
     have hfc:len*ety.size+Zal.length<=c.size:=by rw[hnl,<-hss,<-qE];exact yF _ hfit
     have hr:=Zqs (P:=P) (w:=w) (ty':=ty) ht hu hie hb (x:=a.eval x) (Zal:=Zal) (len:=len) (cap:=capr) ⟨xb,xc,hxv⟩ (by rw[hisz];exact hf) (by rw[hisz];exact hnl) hn1 hfit (by rw[hisz];exact hfc);rw[hisz]at hr;have hob':Ob.At (w.setRow b (c.toList.take (len*ety.size)++Zal++c.toList.drop (len*ety.size+Zal.length)).toArray) (upd t' (some b) ι) X t' (.row ety.size (l.take len++xs)):=by
      have hX1:∀b',ownX (upd t' (some b) ι) X b'->ownX ι X b':=λ b' hb'=>(ZlY hb').elim id (λ he=>he▸ .inr ⟨o,hι⟩)
      refine .row _ _ b _ T (if_pos rfl) (setRow_heap w b c _ T (0,0) hb) ?_ hcl2 (λ j v hj=>?_) (λ i d j e v hi hj hv=>?_)
      ·rw[ZcR _ _ _ hfc,uC,hlt,qE];omega
      ·rw[ZeL _ _ _ hfc]at hj;split at hj
       ·exact hone j v hj
       ·split at hj
        ·exact hn1 v (uA hj)
        ·exact hone j v hj
      ·refine(D.At.store hS hι hb (ZcR _ _ _ hfc) ?_).sub hX1;have hil:=(uB.1 hi).1;have hjs:j<ety.size:=by rw[<-hcl2 d (uA hi)];exact(uB.1 hj).1
       rw[ZeL _ _ _ hfc]at hv;rw[gT,hlt]at hi;rw[uC,hlt]at hil;by_cases hcs:i<len
       ·rw[if_pos hcs]at hi;have:(i+1)*ety.size<=len*ety.size:=yF _ hcs;rw[qE]at this;rw[if_pos (by omega)]at hv;rw[qC,if_pos hcs]at hi;exact h i d j e v hi hj hv
       ·rw[if_neg hcs]at hi;have h1:len*ety.size<=i*ety.size:=yF _ (by omega);have h2:(i+1)*ety.size<=(len+xs.length)*ety.size:=yF _ hil;rw[qE,qE]at h2;rw[if_neg (by omega),if_pos (by omega)]at hv;have heq2:i*ety.size+j-len*ety.size=(i-len)*ety.size+j:=by rw[Nat.sub_mul];omega
        rw[heq2]at hv;exact hnat (i-len) d j e v hi hj hv
     have h0:=hS.gone o;have hdead0:({env:=S.env,objs:=upd o .gone S.objs}:St).objs t'= .dead:=by simp only[upd,if_neg hto];exact hdead
     have h1:=h0.change (some b) t' (.row ety.size (l.take len++xs)) (upd t' (some b) ι) (w.setRow b (c.toList.take (len*ety.size)++Zal++c.toList.drop (len*ety.size+Zal.length)).toArray) rfl rfl rfl (by simp)
      (λ o' hne=>if_neg hne) (λ b' hb'=>by rw[h0.dead hdead0]at hb';cases hb')
      (λ b' hb'=>by
       cases hb';refine⟨⟨o,hι⟩,λ o' hne hg ho'=>?_,by simp only[bsz,hb,setRow_heap w b c _ T (0,0) hb,ZcR _ _ _ hfc]⟩;have hne2:o'≠o:=λ he=>hg (by subst he;exact if_pos rfl)
       simp only[upd,if_neg hne2]at hg;exact hne2 (hS.inj o' o b hg (by rw[hob];simp) ho' hι))
      (λ b' _ hne=>setRow_other w b b' _ (λ he=>hne (by rw[he])))
      (λ b' hb'=>by
       rw[upd,if_pos rfl]at hb';cases hb';refine⟨.inr (.inr ⟨⟨o,hι⟩,λ o' hne hg ho'=>?_⟩),by rw[Zj7];exact(hS.free o b hι).2⟩;have hne2:o'≠o:=λ he=>hg (by subst he;exact if_pos rfl)
       simp only[upd,if_neg hne2]at hg;exact hne2 (hS.inj o' o b hg (by rw[hob];simp) ho' hι)) hob'
     refine⟨_,_,upd t' (some b) ι, .inl (hexec _ hva _ _ hr),?_⟩;have h2:=h1.put (dst:=dst) (x:= .ref t' ety.size 0 (len+xs.length) (len+xs.length)) (v:= .slice (some ⟨b,0*ety.size,none⟩) (len+xs.length) capr) hd
      (.ref t' ety.size 0 _ _ capr b (if_pos rfl) hfit hfit hm (by simp only[bsz,setRow_heap w b c _ T (0,0) hb,ZcR _ _ _ hfc,qO,hss]))
     rw[jI]at h2;exact h2
    ·
     refine ZaJ.gone (P:=P) (o:=⟨dst, .call ⟨.builtin .append,#[s,x],#[t,u]⟩,ty,pos,af,gd⟩) hto ?_;have hr:=Zj5 (P:=P) (w:=w) (ty':=ty) ht hu hie hiz (base:=some ⟨b,0,none⟩) (len:=len) (cap:=capr) (m:=xs.length) (x:=a.eval x) (olds:=c.toList.take (len*ety.size)) (Zal:=news') ⟨xb,xc,hxv⟩
      (by rw[hisz];exact holds) (by rw[hisz];exact hf') (by omega) (by omega) (by omega)
     have:=ZkD (P:=P) (o:=⟨dst, .call ⟨.builtin .append,#[s,x],#[t,u]⟩,ty,pos,af,gd⟩) hS hdst ht'n hdead (l:=l.take len) (xs:=xs) (olds:=c.toList.take (len*ety.size)) (Zal:=news') (sz:=ety.size) (z:=z) (e:=(tyi P t).elem) (cap:=grownCap w (len+xs.length) capr (tyi P t).elem)
      (by rw[hlt];exact hexec _ hva _ _ hr) (by rw[hlt];exact grownCap_ge w _ _ _) (grownCap_le_maxLen w _ _ _ (by simp only[maxLen];omega)) hzs hz1 hol hnl' hcl2 ho1 hn1' hoat
      (λ i d j e v hi hj hv=>(hnat' i d j e v hi hj hv).mono (λ b hb=> .inl hb) (λ _ _ _=>rfl))
     rw[hlt]at this;exact this
 ·rw[heq,rdrop];have hva:∃base,a.eval s= .slice base 0 0:=by
   generalize a.eval s=va at hps;rcases hsv with h|h<;>rw[h]at hps<;>cases hps<;>exact⟨_,rfl⟩
  obtain⟨base,hva⟩:=hva;by_cases hm:xs.length=0
  ·have hx0:xs=[]:=qF hm;subst hx0;have hn0:Zal=[]:=qF (by simpa using hnl);subst hn0;have hr:(Builtin.append_ #[t,u] ty #[.slice base 0 0,a.eval x]).run P w= .ok (.slice base 0 0) w:=by
    rw[hxv]at hf|-;cases base with
    |none=>simp[Builtin.append_,run_underlying ht,run_underlying hu,sizeOf,typeInfo,hie,Builtin.lenOf,hisz]at hf|-;simp[hf]
    |some b=>simp[Builtin.append_,run_underlying ht,run_underlying hu,sizeOf,typeInfo,hie,Builtin.lenOf,hisz,storeCells]at hf|-;simp[hf,storeCells]
   have h1:Hold B X w0 n {env:=S.env,objs:=upd t' (.row ety.size []) S.objs} a w ι:=
    hS.change none t' _ ι w rfl rfl rfl (uH _) (λ _ _=>rfl) (λ _ h=>h) (λ b hb=>by cases hb) (λ _ _ _=>rfl) (λ b hb=>by rw[hS.dead hdead]at hb;cases hb) (.row0 _ (hS.dead hdead))
   refine⟨_,_,ι, .inl (hexec _ hva _ _ hr),?_⟩;rw[hdst]at hd|-;exact h1.put (dst:=some t') hd (.ref0 t' ety.size 0 base)
  ·have hr:=Zj5 (P:=P) (w:=w) (ty':=ty) ht hu hie hiz (base:=base) (len:=0) (cap:=0) (m:=xs.length) (x:=a.eval x) (olds:=[]) (Zal:=news') ⟨xb,xc,hxv⟩
    (by cases base<;>simp[Builtin.firstCells,loadCells,loadCellsFrom]) (by rw[hisz];exact hf') (by omega) (by omega) (by omega)
   have:=ZkD (P:=P) (o:=⟨dst, .call ⟨.builtin .append,#[s,x],#[t,u]⟩,ty,pos,af,gd⟩) hS hdst ht'n hdead (l:=[]) (xs:=xs) (olds:=[]) (Zal:=news') (sz:=ety.size) (z:=z) (e:=(tyi P t).elem) (cap:=grownCap w (0+xs.length) 0 (tyi P t).elem)
    (by simpa using hexec _ hva _ _ hr) (by simpa using grownCap_ge w (0+xs.length) 0 (tyi P t).elem) (grownCap_le_maxLen w _ _ _ (by simp only[maxLen];omega)) hzs hz1 (by simp) hnl' (by simpa using hcl) (by simp) hn1' (by simp)
    (λ i d j e v hi hj hv=>(hnat' i d j e v hi hj hv).mono (λ b hb=> .inl hb) (λ _ _ _=>rfl))
   simpa using this
end hold
section hold
variable {P:Program}{B X:Nat->Prop}{w0:W0}{w:World}{n:Nat}{S:St}{a:Act}{ι:Nat->Option Nat}{dst:Option Nat}{ty:TypeId}{pos:String}{af:Array Edge}{gd:Option (Nat×Bool)}
theorem ZoY {t:TypeId}(h:(tyi P t).kind=8):P.underlying t=some .string:=by
 simp only[tyi]at h;cases hu:P.underlying t with
 |none=>rw[hu]at h;simp at h
 |some d=>rw[hu]at h;cases d<;>first|(simp at h;done)|(dsimp only at h;split at h<;>cases h;done)|rfl
theorem ZsA {t:TypeId}(h:(tyi P t).bk=true):P.underlying t=some (.int .u8):=by
 simp only[tyi]at h;split at h
 ·assumption
 ·cases h
theorem ZeM (s:ByteArray):(Zcq s).length=s.size:=by simp[Zcq]
theorem Zyz (hS:Hold B X w0 n S a w ι){T:TypeId}{x i:Operand}(hd:∀t,dst=some t->t<n)(hx:Zax x=true)(hi:Zax i=true)
  (hc:(Zf4 (tyi P T) (S.ev x) (S.ev i)).1):ZaJ P B X w0 n ⟨dst, .index T x i,ty,pos,af,gd⟩ (S.app dst (Zf4 (tyi P T) (S.ev x) (S.ev i)).2) a w:=by
 have hp:=hS.ev hx;have hq:=hS.ev hi;generalize S.ev x=p at hc hp;generalize S.ev i=q at hc hq;unfold Zf4 at hc|-;split at hc
 ·rename_i s m;obtain⟨hk,h0,hm⟩:=hc;simp only;rw[ZaM];have e1:=Zh4 hp;have e2:=Zbc hq;obtain⟨k,rfl⟩:∃k:Nat,m=k:=⟨m.toNat,by omega⟩;simp only[uQ]at hm|-;have hg:s[k]? =some s[k]:=by simp[hm]
  have he:(Zcq s).getD k 0=(s[k].toNat:Int):=by
   rw[jC,Zcq,uI];have:s.data.toList[k]? =some s[k]:=by
    rw[qM];exact uT hm
   rw[this];rfl
  rw[he];refine hS.goes (v:= .int .u8 (s[k].toNat:Int)) hd ?_ (.d _ _ (.sc _ rfl));simp only[execOp,e1,e2,Instr.index,Sem.run_bind,Zsj rfl,Result.andThen_ok,run_underlying (ZoY hk)];rw[if_pos (by omega:(0:Int)<=(k:Int)),uQ,hg];rfl
 ·exact hc.elim
theorem Zyd (hS:Hold B X w0 n S a w ι){T U:TypeId}{x:Operand}(hd:∀t,dst=some t->t<n)(hx:Zax x=true)
  (hc:(Zf7 (P.underlying T) (P.underlying U) (tyi P U) (tyi P (tyi P U).elem) (S.ev x)).1):ZaJ P B X w0 n ⟨dst, .convert T U x,ty,pos,af,gd⟩ (S.app dst (Zf7 (P.underlying T) (P.underlying U) (tyi P U) (tyi P (tyi P U).elem) (S.ev x)).2) a w:=by
 have hp:=hS.ev hx;generalize S.ev x=p at hc hp;cases h1:P.underlying T with
 |none=>rw[h1]at hc;exact hc.elim
 |some d1=>
  cases h2:P.underlying U with
  |none=>rw[h1,h2]at hc;exact hc.elim
  |some d2=>
   rw[h1,h2]at hc;unfold Zf7 at hc|-;split at hc
   ·rename_i k j m e1 e2;cases e1;cases e2;simp only;rw[ZaM];have e1:=ZfL hp;exact hS.goes (v:= .int k (k.wrap m)) hd (by simp only[execOp,e1,convert,Sem.run_bind,run_underlying h1,run_underlying h2,Result.andThen_ok];rfl) (.d _ _ (.sc _ rfl))
   ·rename_i s e1 e2;cases e1;cases e2;obtain⟨hk,hb,hs⟩:=hc;simp only;rw[ZaM];have e1:=Zh4 hp;have hr:=Lib.run_convert_string_bytes (P:=P) w T U (tyi P U).elem s h1 (Zc6 hk) (ZsA hb);have hS':=hS.ext (w':=Lib.bytesWorld w (tyi P U).elem s) ⟨by simp[Lib.bytesWorld,World.freeze,World.alloc,World.drew,-World.alloc_eq,-World.drew_eq],by simp[Lib.bytesWorld,World.freeze,World.alloc,World.drew,-World.alloc_eq,-World.drew_eq],
     by simp[Lib.bytesWorld,World.freeze,World.alloc,World.drew,-World.alloc_eq,-World.drew_eq],by rw[Lib.bytesWorld_size];omega,λ k hk=>Lib.bytesWorld_at_old w _ s k hk⟩
    refine⟨.slice (some ⟨w.heap.size,0,none⟩) s.size (grownCap w s.size 0 (tyi P U).elem),_,ι, .inl (by simp only[execOp,e1,Sem.run_bind,hr,Result.andThen_ok,Sem.run_pure]),hS'.put hd (.d _ _ ?_)⟩;have hgc:grownCap w s.size 0 (tyi P U).elem<=maxLen/\s.size<=grownCap w s.size 0 (tyi P U).elem:=by
     simp only[roomy]at hs;have:=Cn (w.tape w.drawn (.appendCap s.size 0 (tyi P U).elem)) (show 0<2^63-s.size by omega);simp only[grownCap,maxLen,Question.cut];omega
    have:=D.At.sl (w:=Lib.bytesWorld w (tyi P U).elem s) (X:=ownX ι X) (ZcM s) w.heap.size 0 (grownCap w s.size 0 (tyi P U).elem) 1 (by simp[ZcM,ZeM,hgc.2]) hgc.1 (λ d hd=>by
      obtain⟨b,_,rfl⟩:=uN.1 hd;rfl) (λ i _=> .int .u8 ((Zcq s).getD i 0)) (λ i d j c hi hj=>?_) (λ i d j c hi hj=>?_)
    ·rw[show(ZcM s).length=s.size by simp[ZcM,ZeM]]at this;exact this
    ·have hi2:i<s.size:=by have:=(uB.1 hi).1;simpa[ZcM,ZeM]using this
     have hb2:(ZcM s)[i]? =some (.sc (.int .u8 ((Zcq s).getD i 0))):=by
      rw[ZcM,uI,uL (by rw[ZeM];exact hi2),jC,uL (by rw[ZeM];exact hi2)];rfl
     rw[hb2]at hi;cases hi;cases j with
     |zero=>
      refine⟨?_,rfl,λ ho=>?_⟩
      ·have:=Lib.bytesWorld_cell w (tyi P U).elem s i hi2;simp only[qO,jQ,gH];rw[this];simp[Zcq,jC,hi2]
      ·have:=hS.ownlt ho;omega
     |succ j=>simp[D.cells]at hj
    ·have hi2:i<s.size:=by have:=(uB.1 hi).1;simpa[ZcM,ZeM]using this
     have hb2:(ZcM s)[i]? =some (.sc (.int .u8 ((Zcq s).getD i 0))):=by
      rw[ZcM,uI,uL (by rw[ZeM];exact hi2),jC,uL (by rw[ZeM];exact hi2)];rfl
     rw[hb2]at hi;cases hi;cases j with
     |zero=>cases hj;exact .sc _ rfl
     |succ j=>simp[D.cells]at hj
   ·exact hc.elim
end hold
end Go.PS
