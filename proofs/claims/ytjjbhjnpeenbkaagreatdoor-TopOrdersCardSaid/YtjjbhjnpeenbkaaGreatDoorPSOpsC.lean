/- A slice of one slice, and its append to slices. -/
import Derived.Test.YtjjbhjnpeenbkaaGreatDoorPSOps6
set_option linter.unusedSimpArgs false
set_option linter.unusedVariables false
set_option maxHeartbeats 16000000
namespace Go.PS
open Go
section hold
variable {P:Program}{B X:Nat->Prop}{w0:W0}{w:World}{n:Nat}{S:St}{a:Act}{ι:Nat->Option Nat}{dst:Option Nat}{ty:TypeId}{pos:String}{af:Array Edge}{gd:Option (Nat×Bool)}
theorem ZoC (hS:Hold B X w0 n S a w ι){o:Oper}{t:Nat}(hdst:o.dst=some t)(ht:t<n)(hdead:S.objs t= .dead){w':World}{k cap:Nat}{cs:List PV}{arr:Array Value}{e:TypeId}
  (hr:(execOp a.eval o).run P w= .ok (.value (.slice (some ⟨w.heap.size,0,none⟩) k cap)) w')(hos:w'.os=w.os)(htp:w'.tape=w.tape)(hout:w'.output=w.output)(hsz:w'.heap.size=w.heap.size+1)
  (hold:∀b,b<w.heap.size->w'.heap[b]? =w.heap[b]?)(hnew:w'.heap[w.heap.size]? =some (.cells arr e (0,0)))(hk:cs.length=k)(hcap:k<=cap)(hcm:cap<=maxLen)(has:arr.size=cap)
  (hone:∀(j:Nat) (v:Value),arr[j]? =some v->v.oneCell'=true)(hat:∀(j:Nat) p v,cs[j]? =some p->arr[j]? =some v->PV.At w ι X p v):
  ZaJ P B X w0 n o (S.app o.dst {val:= .ref t 1 0 k k,wr:=[(t, .cells cs)]}) a w:=by
 have hob:Ob.At w' (upd t (some w.heap.size) ι) X t (.cells cs):=
  .cells cs w.heap.size arr e (if_pos rfl) hnew (by rw[has,hk];exact hcap) hone λ j p v hj hv=>(hat j p v hj hv).alloc hS hdead hold
 have h1:=hS.alloc hdead w' hos htp hout hsz hold _ hob;refine⟨_,_,upd t (some w.heap.size) ι, .inl hr,?_⟩;have h2:=h1.put (dst:=o.dst) (x:= .ref t 1 0 k k) (v:= .slice (some ⟨w.heap.size,0*1,none⟩) k cap) (λ u hu=>by rw[hdst]at hu;cases hu;exact ht)
  (.ref t 1 0 _ _ cap w.heap.size (if_pos rfl) hcap hcap hcm (by simp only[bsz,hnew,has,qO,jQ]))
 rw[jI]at h2;rw[hdst]at h2|-;exact h2
theorem Zya (hS:Hold B X w0 n S a w ι){T:TypeId}{m:Nat}{ps:Array (Nat×Operand)}(hd:∀t,dst=some t->t<n)(hx:∀p∈ps.toList,Zax p.2=true)
  (hc:(ZdK S.objs dst (tyi P T) (tyi P (tyi P T).elem) m (ps.toList.map λ p=>(p.1,S.ev p.2))).1):
  ZaJ P B X w0 n ⟨dst, .buildSlice T m ps,ty,pos,af,gd⟩ (S.app dst (ZdK S.objs dst (tyi P T) (tyi P (tyi P T).elem) m (ps.toList.map λ p=>(p.1,S.ev p.2))).2) a w:=by
 unfold ZdK at hc|-;split at hc
 ·rename_i t i p hps;obtain⟨hk,hz,hs1,rfl,rfl,hrf,hdead⟩:=hc;have hu:=Zc6 hk;obtain⟨ie,z,hie,hiz,hzs,hisz,_,hz1,hne,hzz,_⟩:=ZhO hz;generalize he:(tyi P (tyi P T).elem)=ety at*;obtain⟨q,hq,hqp⟩:∃q,ps.toList=[q]/\(q.1,S.ev q.2)=(0,p):=by
   cases hpl:ps.toList with
   |nil=>rw[hpl]at hps;cases hps
   |cons q qs=>
    rw[hpl]at hps;simp only[uX,List.cons.injEq,List.map_eq_nil_iff]at hps;obtain⟨h1,rfl⟩:=hps;exact⟨q,rfl,h1⟩
  obtain⟨q1,q2⟩:=q;simp only[Bi]at hqp;obtain⟨rfl,hqp⟩:=hqp;have hp:=hS.ev (hx (0,q2) (by rw[hq];exact uR.2 rfl));simp only at hp;rw[hqp]at hp;have hpc:p.cells?=some [p]:=by cases p<;>first|rfl|cases hrf
  obtain⟨c1,c2,c3⟩:=hp.cells hpc;obtain⟨z0,hz0⟩:∃z0,z.cells=#[z0]:=by
   have:z.cells.size=1:=hzs.trans hs1;exact⟨z.cells[0],by
    refine Array.ext (by simpa using this) λ i h1 h2=>?_
    have:i=0:=by simp at h2;exact h2
    subst this;rfl⟩
  have hone:∃v0,(a.eval q2).cells=#[v0]:=by
   refine⟨(a.eval q2).cells[0]'(by rw[c1];exact Nat.one_pos),?_⟩;refine Array.ext (by simpa using c1) λ i h1 h2=>?_
   have:i=0:=by simp at h2;exact h2
   subst this;rfl
  obtain⟨v0,hv0⟩:=hone;have ha':Instr.fill (λ i=>some (i*1,1)) ((Array.range (1*1)).map (λ k=>z.cells[k%z.cells.size]!)) [(0,a.eval q2)]=some #[v0]:=by
   have e0:(Array.range (1*1)).map (λ k=>z.cells[k%z.cells.size]!)=#[z0]:=by
    rw[hz0];refine Array.ext (by simp) λ i h1 h2=>?_
    have:i=0:=by simp at h2;exact h2
    subst this;simp
   rw[e0];simp[Instr.fill,hv0]
  have hr:(Instr.buildSlice T 1 (ps.map λ(i,x)=>(i,a.eval x))).run P w= .ok (.slice (some ⟨w.heap.size,0,none⟩) 1 1) (w.alloc (.cells #[v0] (tyi P T).elem)):=by
   simp only[Instr.buildSlice,Sem.run_bind,run_underlying hu,Result.andThen_ok,sizeOf,typeInfo,hie,run_program,Sem.run_pure,Sem.run_ite];rw[hisz,hs1];simp only[show¬(1*1>2^24) by omega,jE,Sem.run_pure,Result.andThen_ok,jQ,Nat.one_ne_zero,Sem.run_bind,zeroValue,typeInfo,hie,hiz,run_program];simp only[Array.toList_map,hq,uX,yT];rw[jQ]at ha';simp only[jQ]at ha';rw[ha'];simp[newRow]
  refine ZoC (P:=P) (o:=⟨some t, .buildSlice T 1 ps,ty,pos,af,gd⟩) hS rfl (hd t rfl) hdead (w':=w.alloc (.cells #[v0] (tyi P T).elem)) (k:=1) (cap:=1) (cs:=[p]) (arr:=#[v0]) (e:=(tyi P T).elem)
   (by simp only[execOp,Sem.run_bind,hr,Result.andThen_ok,Sem.run_pure]) rfl rfl rfl (by simp) (λ b hb=>heap_alloc_old w _ hb) (heap_alloc_new w _) rfl (uH _) (by decide) rfl (λ j v hj=>c2 j v (by rw[hv0];exact hj)) λ j p' v hj hv=>?_
  exact c3 j p' v hj (by rw[hv0];exact hv)
 ·exact hc.elim
theorem ZsT {o:Nat}{ob:Ob}{cs:List PV}(h:Ob.At w ι X o ob)(hc:Zgz ob=some cs):
  (ι o=none/\cs=[])\/∃b arr T,ι o=some b/\w.heap[b]? =some (.cells arr T (0,0))/\cs.length<=arr.size/\(∀(j:Nat) (v:Value),arr[j]? =some v->v.oneCell'=true)/\
   ∀(j:Nat) p v,cs[j]? =some p->arr[j]? =some v->PV.At w ι X p v:=by
 cases h with
 |dead=>cases hc
 |gone=>cases hc
 |imap=>cases hc
 |iter=>cases hc
 |cells cs' b arr T hι hb hsz hone h=>cases hc;exact .inr ⟨b,arr,T,hι,hb,hsz,hone,h⟩
 |row0 sz h=>
  simp only[Zgz]at hc;split at hc
  ·cases hc;exact .inl ⟨h,rfl⟩
  ·cases hc
 |row sz l b arr T hι hb hsz hcl hone h=>
  simp only[Zgz]at hc;split at hc
  ·cases hc;exact .inr ⟨b,arr,T,hι,hb,uJ _,hone,λ j p v hj=>by simp at hj⟩
  ·cases hc
theorem ZsS (hS:Hold B X w0 n S a w ι){x:PV}{v:Value}{p:PV}{o2:Nat}(h:Zdg S.objs x=some (p,o2))(hx:PV.At w ι X x v):
  ∃b c,v= .slice (some ⟨b,0,none⟩) 1 c/\∃arr T u,w.heap[b]? =some (.cells arr T (0,0))/\arr[0]? =some u/\u.oneCell'=true/\PV.At w ι X p u:=by
 cases x<;>try (simp only[Zdg]at h;cases h;done)
 rename_i o sz off len cap;simp only[Zdg]at h;cases ho:ZiC (S.objs o)with
 |none=>rw[ho]at h;cases h
 |some p'=>
  rw[ho]at h;simp only at h;split at h
  ·rename_i hc;obtain⟨rfl,rfl,rfl⟩:=hc;cases h;have hoc:S.objs o2= .cells [p]:=by
    unfold ZiC at ho;split at ho<;>first|(cases ho;assumption)|cases ho
   have hob:=hS.objs o2;rw[hoc]at hob;cases hx with
   |ref _ _ _ _ _ capr b hι hl hcc hm hss=>
    cases hob with
    |cells _ b' arr T hι' hb hsz hone hat=>
     rw[hι]at hι';cases hι';have h0:0<arr.size:=hsz;have hg:arr[0]? =some arr[0]:=uT h0;exact⟨b,capr,by simp,arr,T,arr[0],hb,hg,hone _ _ hg,hat 0 p _ rfl hg⟩
  ·cases h
theorem Zx4 (hS:Hold B X w0 n S a w ι){t u:TypeId}{s x:Operand}{p:PV}{o2:Nat}(hd:∀t,dst=some t->t<n)(hs:Zax s=true)(hx:Zax x=true)(hp:Zdg S.objs (S.ev x)=some (p,o2))
  (hc:(Ze3 S.objs dst (tyi P t) (tyi P u) (tyi P (tyi P t).elem) (S.ev s) p o2).1):
  ZaJ P B X w0 n ⟨dst, .call ⟨.builtin .append,#[s,x],#[t,u]⟩,ty,pos,af,gd⟩ (S.app dst (Ze3 S.objs dst (tyi P t) (tyi P u) (tyi P (tyi P t).elem) (S.ev s) p o2).2) a w:=by
 have hps:=hS.ev hs;obtain⟨bx,cx,hxv,arrx,Tx,ux,hbx,hux,hu1,hpu⟩:=ZsS hS hp (hS.ev hx);unfold Ze3 at hc|-;split at hc
 ·rename_i t' o sz off len cap hsv;rw[hsv]at hps;cases hcs:Zgz (S.objs o)with
  |none=>rw[hcs]at hc;exact hc.elim
  |some cs=>
  rw[hcs]at hc;simp only at hc|-;obtain⟨hk1,hk2,hz,hs1,hby,hdead,rfl,rfl,hlen,hroom⟩:=hc;have ht'n:t'<n:=hd t' rfl;have ht:=Zc6 hk1;have hu:=Zc6 hk2;obtain⟨ie,z,hie,hiz,hzs,hisz,hiby,hz1,hne,hzz,_⟩:=ZhO hz;generalize he:(tyi P (tyi P t).elem)=ety at*;have hlive:S.objs o≠ .gone:=λ h=>by rw[h]at hcs;cases hcs
  have hto:t'≠o:=λ h=>by rw[<-h,hdead]at hcs;cases hcs
  have rdrop:∀(q:St) (r:List Nat) (v:PV) (wr:List (Nat×Ob)),q.app (some t') {val:=v,wr:=wr,rd:=r}=q.app (some t') {val:=v,wr:=wr}:=λ q r v wr=>rfl
  rw[rdrop];have hexec:∀(sv:Value),a.eval s=sv->∀v w',(Builtin.append_ #[t,u] ty #[sv,a.eval x]).run P w= .ok v w'->
    (execOp a.eval ⟨some t', .call ⟨.builtin .append,#[s,x],#[t,u]⟩,ty,pos,af,gd⟩).run P w= .ok (.value v) w':=by
   intro sv hsv v w' hr;simp only[execOp,resolve,invoke,builtin,Sem.run_bind,Sem.run_pure,Result.andThen_ok,List.map_toArray,uX,yT,hsv,hr]
  have hfx:∀w1:World,w1.heap=w.heap->(Builtin.firstCells 1 1 (a.eval x)).run P w1= .ok [ux].toArray w1:=λ w1 h1=>by
   rw[hxv];refine run_firstCells_some (P:=P) w1 1 1 ⟨bx,0,none⟩ 1 cx [ux] rfl (λ j v hj=>?_);cases j with
   |succ j=>simp at hj
   |zero=>
    cases hj;rw[ZcY,qO,ZcB (w:=w1) (by rw[h1];exact hbx)];exact hux
  have hisz1:ie.size=1:=hisz.trans hs1;have hzs1:z.cells.size=1:=hzs.trans hs1;simp only[roomy]at hroom
  have fresh:∀(base:Option Addr) (capr:Nat) (olds:List Value),a.eval s= .slice base len capr->capr<len+1->(Builtin.firstCells ie.size len (.slice base len capr)).run P w.drew= .ok olds.toArray w.drew->olds.length=len->
    (∀u∈olds,u.oneCell'=true)->(∀(j:Nat) q v,cs[j]? =some q->olds[j]? =some v->PV.At w ι X q v)->
    ZaJ P B X w0 n ⟨some t', .call ⟨.builtin .append,#[s,x],#[t,u]⟩,ty,pos,af,gd⟩ (S.app (some t') {val:= .ref t' 1 0 (len+1) (len+1),wr:=[(t', .cells (cs.take len++[p])),(o, .gone)]}) a w:=by
   intro base capr olds hva hgr ho hol ho1 hoat;refine ZaJ.gone (P:=P) (o:=⟨some t', .call ⟨.builtin .append,#[s,x],#[t,u]⟩,ty,pos,af,gd⟩) hto ?_;have hr:=Zj5 (P:=P) (w:=w) (ty':=ty) ht hu hie hiz (base:=base) (len:=len) (cap:=capr) (m:=1) (x:=a.eval x) (olds:=olds) (Zal:=[ux]) ⟨_,cx,hxv⟩ ho (by rw[hisz1];exact hfx _ rfl) hgr hroom (by omega);have hge:=grownCap_ge w (len+1) capr (tyi P t).elem;have hsza:(olds.toArray++[ux].toArray++Builtin.zeroCells z.cells (grownCap w (len+1) capr (tyi P t).elem-(len+1))).size=grownCap w (len+1) capr (tyi P t).elem:=by
    simp only[Array.size_append,kA,hol,size_zeroCells,hzs1,uV,uY];omega
   refine ZoC (P:=P) (o:=⟨some t', .call ⟨.builtin .append,#[s,x],#[t,u]⟩,ty,pos,af,gd⟩) hS rfl ht'n hdead (k:=len+1) (hexec _ hva _ _ hr) rfl rfl rfl (by simp) (λ b hb=>heap_alloc_old w.drew _ hb) (heap_alloc_new w.drew _)
    (by simp;omega) hge (grownCap_le_maxLen w _ _ _ (by simp only[maxLen];omega)) hsza (λ j v hj=>?_) (λ j q v hq hj=>?_)
   ·rw[gJ,gJ]at hj;split at hj
    ·split at hj
     ·exact ho1 v (uA (by simpa using hj))
     ·have:=uA (l:=[ux]) (by simpa using hj);rw[uR]at this;rw[this];exact hu1
    ·exact Zrr hz1 _ v hj
   ·have hjl:j<len+1:=by
     have:=(uB.1 hq).1;simp at this;omega
    rw[zG (by simp[hol];omega),gJ]at hj;simp only[kA,hol,kH]at hj;rw[gT]at hq;simp only[uS,jA hlen]at hq;by_cases hjc:j<len
    ·rw[if_pos hjc]at hq hj;rw[qC,if_pos hjc]at hq;exact hoat j q v hq hj
    ·rw[if_neg hjc]at hq hj;have:j-len=0:=by omega
     rw[this]at hq hj;cases hq;cases hj;exact hpu
  generalize hva:a.eval s=va at hps;cases hps with
  |ref0 _ _ _ base=>
   exact fresh base 0 [] hva (by omega) (by cases base<;>simp[Builtin.firstCells,loadCells,loadCellsFrom]) rfl (by simp) (by simp)
  |ref _ _ _ _ _ capr b hι hl hcc hm hss=>
   simp only[jI]at hva;rcases ZsT (hS.objs o) hcs with⟨h,_⟩|⟨b',c,T,hι',hb,hsz,hone,hat⟩
   ·rw[h]at hι;cases hι
   ·rw[hι]at hι';cases hι';simp only[qO,bsz,hb,jQ]at hss;have hlc:len<=c.size:=by omega
    by_cases hfit:len+1<=capr
    ·have hfc:len+[ux].length<=c.size:=by simp;omega
     have hr:=Zqs (P:=P) (w:=w) (ty':=ty) ht hu hie hb (x:=a.eval x) (Zal:=[ux]) (len:=len) (cap:=capr) (m:=1) ⟨_,cx,hxv⟩ (by rw[hisz1];exact hfx _ rfl) (by simp[hisz1]) (λ v hv=>by rw[uR.1 hv];exact hu1) hfit (by rw[hisz1,jQ];exact hfc);rw[hisz1,jQ]at hr;have hit:ι t'=none:=hS.dead hdead;have hX1:∀b',ownX (upd t' (some b) ι) X b'->ownX ι X b':=λ b' hb'=>(ZlY hb').elim id (λ he=>he▸ .inr ⟨o,hι⟩)
     have mv:∀q v,PV.At w ι X q v->PV.At (w.setRow b (c.toList.take len++[ux]++c.toList.drop (len+[ux].length)).toArray) (upd t' (some b) ι) X q v:=λ q v hq=>
      (PV.At.store hS hι hb (ZcR _ _ _ hfc) hq).move (λ o' b' hb'=>⟨by rw[upd,if_neg (λ h=>by rw[h,hit]at hb';cases hb')];exact hb',rfl⟩) (λ b' hb'=> .inl (hX1 b' hb')) (λ _ _ _=>rfl)
     have hob':Ob.At (w.setRow b (c.toList.take len++[ux]++c.toList.drop (len+[ux].length)).toArray) (upd t' (some b) ι) X t' (.cells (cs.take len++[p])):=by
      refine .cells _ b _ T (if_pos rfl) (setRow_heap w b c _ T (0,0) hb) ?_ (λ j v hj=>?_) (λ j q v hq hj=>?_)
      ·rw[ZcR _ _ _ hfc,uC,uS,jA hlen];exact hfc
      ·rw[ZeL _ _ _ hfc]at hj;split at hj
       ·exact hone j v hj
       ·split at hj
        ·rw[uR.1 (uA hj)];exact hu1
        ·exact hone j v hj
      ·refine mv q v ?_;have hjl:j<len+1:=by
        have:=(uB.1 hq).1;simp at this;omega
       rw[ZeL _ _ _ hfc]at hj;rw[gT]at hq;simp only[uS,jA hlen]at hq;by_cases hjc:j<len
       ·rw[if_pos hjc]at hq hj;rw[qC,if_pos hjc]at hq;exact hat j q v hq hj
       ·rw[if_neg hjc]at hq hj;rw[if_pos (by simpa using hjl)]at hj;have:j-len=0:=by omega
        rw[this]at hq hj;cases hq;cases hj;exact hpu
     have h0:=hS.gone o;have hdead0:({env:=S.env,objs:=upd o .gone S.objs}:St).objs t'= .dead:=by simp only[upd,if_neg hto];exact hdead
     have h1:=h0.change (some b) t' (.cells (cs.take len++[p])) (upd t' (some b) ι) (w.setRow b (c.toList.take len++[ux]++c.toList.drop (len+[ux].length)).toArray) rfl rfl rfl (by simp)
      (λ o' hne=>if_neg hne) (λ b' hb'=>by rw[h0.dead hdead0]at hb';cases hb')
      (λ b' hb'=>by
       cases hb';refine⟨⟨o,hι⟩,λ o' hne hg ho'=>?_,by simp only[bsz,hb,setRow_heap w b c _ T (0,0) hb,ZcR _ _ _ hfc]⟩;have hne2:o'≠o:=λ he=>hg (by subst he;exact if_pos rfl)
       simp only[upd,if_neg hne2]at hg;exact hne2 (hS.inj o' o b hg hlive ho' hι))
      (λ b' _ hne=>setRow_other w b b' _ (λ he=>hne (by rw[he])))
      (λ b' hb'=>by
       rw[upd,if_pos rfl]at hb';cases hb';refine⟨.inr (.inr ⟨⟨o,hι⟩,λ o' hne hg ho'=>?_⟩),by rw[Zj7];exact(hS.free o b hι).2⟩;have hne2:o'≠o:=λ he=>hg (by subst he;exact if_pos rfl)
       simp only[upd,if_neg hne2]at hg;exact hne2 (hS.inj o' o b hg hlive ho' hι)) hob'
     refine⟨_,_,upd t' (some b) ι, .inl (hexec _ hva _ _ hr),?_⟩;have h2:=h1.put (dst:=some t') (x:= .ref t' 1 0 (len+1) (len+1)) (v:= .slice (some ⟨b,0*1,none⟩) (len+1) capr) hd
      (.ref t' 1 0 _ _ capr b (if_pos rfl) hfit hfit hm (by simp only[bsz,setRow_heap w b c _ T (0,0) hb,ZcR _ _ _ hfc,qO,jQ,hss]))
     rw[jI]at h2;exact h2
    ·have holds:(Builtin.firstCells 1 len (.slice (some ⟨b,0,none⟩) len capr)).run P w.drew= .ok (c.toList.take len).toArray w.drew:=by
      refine run_firstCells_some (P:=P) w.drew 1 len ⟨b,0,none⟩ len capr _ (by simp;omega) (λ j v hj=>?_);rw[qC]at hj;split at hj
      ·rw[ZcY,qO,ZcB (w:=w.drew) hb];simpa using hj
      ·cases hj
     refine fresh (some ⟨b,0,none⟩) capr (c.toList.take len) hva (by omega) (by rw[hisz1];exact holds) (by simp;omega) (λ v hv=>?_) (λ j q v hq hj=>?_)
     ·obtain⟨j,hj⟩:=yW (qR hv);exact hone j v (by simpa using hj)
     ·rw[qC]at hj;split at hj
      ·exact hat j q v hq (by simpa using hj)
      ·cases hj
 ·exact hc.elim
end hold
section hold
variable {P:Program}{B X:Nat->Prop}{w0:W0}{w:World}{n:Nat}{S:St}{a:Act}{ι:Nat->Option Nat}{dst:Option Nat}{ty:TypeId}{pos:String}{af:Array Edge}{gd:Option (Nat×Bool)}
theorem Zzd {T:List (Nat×List Int)}{Y:Nat->Prop}(h:ZdX T w Y){g i:Nat}(hi:i<(ZeA T g).length):D.At w Y (.pt ((ZeA T g).drop i)) (.pointer (some ⟨g,i,none⟩)):=by
 induction T with
 |nil=>simp[ZeA]at hi
 |cons q T ih=>
  obtain⟨g',l⟩:=q;simp only[ZeA]at hi|-;by_cases c:g'=g
  ·subst c;rw[if_pos rfl];obtain⟨h1,h2,h3⟩:=h (g',l) (by simp);have key:∀(j:Nat) c,((l.map λ v=>D.sc (.int .u8 v)).drop i)[j]? =some c->∃v,l[i+j]? =some v/\c= .sc (.int .u8 v):=by
    intro j c hj;rw[qZ,uI]at hj;cases hq:l[i+j]? with
    |none=>rw[hq]at hj;cases hj
    |some v=>rw[hq]at hj;cases hj;exact⟨v,rfl,rfl⟩
   refine .pt _ g' i (λ j=> .int .u8 ((l[i+j]?).getD 0)) (λ j c hj=>?_) (λ j c hj=>?_)
   ·obtain⟨v,hv,rfl⟩:=key j c hj;simp only[hv,yQ];exact⟨h3 _ v hv,rfl,h2⟩
   ·obtain⟨v,hv,rfl⟩:=key j c hj;simp only[hv,yQ];exact .sc _ rfl
  ·rw[if_neg c]at hi|-;exact ih (λ q hq=>h q (uM _ hq)) hi
theorem Zyi (ht:w0.tabs=tabs P)(hS:Hold B X w0 n S a w ι){T:TypeId}{g:Nat}{i:Operand}(hd:∀t,dst=some t->t<n)(hi:Zax i=true)
  (hc:(Zga (tabs P) g (tyi P T) (P.cellsOf (tyi P T).elem) (S.ev i)).1):ZaJ P B X w0 n ⟨dst, .indexAddr T (.global g) i,ty,pos,af,gd⟩ (S.app dst (Zga (tabs P) g (tyi P T) (P.cellsOf (tyi P T).elem) (S.ev i)).2) a w:=by
 have hq:=hS.ev hi;generalize S.ev i=q at hc hq;unfold Zga at hc|-;split at hc
 ·rename_i m;obtain⟨hk,he,h0,hlt,hl⟩:=hc;simp only;rw[ZaM];have hu:=ZoX hk;have ei:=ZfL hq;have hsz':=ZgV (P:=P) (u:=(tyi P T).elem) (by omega) w;have hT:=Zzd (w:=w) (ht▸hS.tabs) hl;refine hS.goes (v:= .pointer (some ⟨g,m.toNat,none⟩)) hd ?_ (.d _ _ hT);have hm:m<(tyi P T).len:=by omega
  have hva:a.eval (.global g)= .pointer (some ⟨g,0,none⟩):=rfl;simp[execOp,Instr.indexAt,hva,ei,asIntOf,run_underlying hu,hsz',h0,hm,ZcY,Instr.sureAddr,he]
 ·exact hc.elim
theorem Zyj (hS:Hold B X w0 n S a w ι){T:TypeId}{x:Operand}(hd:∀t,dst=some t->t<n)(hx:Zax x=true)
  (hc:(Zgb (tyi P T) T (S.ev x)).1):ZaJ P B X w0 n ⟨dst, .makeInterface T x,ty,pos,af,gd⟩ (S.app dst (Zgb (tyi P T) T (S.ev x)).2) a w:=by
 have hp:=hS.ev hx;generalize S.ev x=p at hc hp;unfold Zgb at hc|-;split at hc
 ·rename_i m;simp only;rw[ZaM];have e1:=Zbc hp;refine hS.goes (v:= .iface T (.int .i64 m)) hd ?_ (.d _ _ (.sc _ rfl));cases hu:P.underlying T with
  |none=>simp[tyi,hu]at hc
  |some d=>cases d<;>simp[tyi,hu]at hc<;>simp[execOp,Instr.makeInterface,e1,run_underlying hu]
 ·rename_i o sz i c;obtain⟨hk,h0⟩:=hc;simp only;rw[ZaM];generalize hva:a.eval x=va at hp;cases hp with
  |ptr _ _ _ _ b hι=>
   rw[h0]at hva;refine hS.goes (v:= .iface T (.pointer (some ⟨b,0,none⟩))) hd ?_ (.ifp T o b hι);cases hu:P.underlying T with
   |none=>simp[tyi,hu]at hk
   |some d=>cases d<;>simp[tyi,hu]at hk<;>simp[execOp,Instr.makeInterface,hva,run_underlying hu]
 ·exact hc.elim
theorem Zx5 (hS:Hold B X w0 n S a w ι){T U:TypeId}{x:Operand}(hd:∀t,dst=some t->t<n)(hx:Zax x=true)
  (hc:(Zf3 (tyi P T) T (S.ev x)).1):ZaJ P B X w0 n ⟨dst, .typeAssert x U T false,ty,pos,af,gd⟩ (S.app dst (Zf3 (tyi P T) T (S.ev x)).2) a w:=by
 have hp:=hS.ev hx;generalize S.ev x=p at hc hp;unfold Zf3 at hc|-;split at hc
 ·rename_i t m;obtain⟨hk,rfl⟩:=hc;simp only;rw[ZaM];have e1:a.eval x= .iface t (.int .i64 m):=by
   generalize a.eval x=v at hp;cases hp with
   |d _ _ h=>cases h;rfl
  refine hS.goes (v:= .int .i64 m) hd ?_ (.d _ _ (.sc _ rfl));cases hu:P.underlying t with
  |none=>simp[tyi,hu]at hk
  |some d=>cases d<;>simp[tyi,hu]at hk<;>simp[execOp,Instr.typeAssert,e1,run_underlying hu]
 ·exact hc.elim
theorem Zye (hS:Hold B X w0 n S a w ι){t u:TypeId}{s x:Operand}(hd:∀t,dst=some t->t<n)(hs:Zax s=true)(hx:Zax x=true)
  (hc:(ZhD S.objs (tyi P t) (tyi P (tyi P t).elem) (S.ev s) (S.ev x)).1):
  ZaJ P B X w0 n ⟨dst, .call ⟨.builtin .copy,#[s,x],#[t,u]⟩,ty,pos,af,gd⟩ (S.app dst (ZhD S.objs (tyi P t) (tyi P (tyi P t).elem) (S.ev s) (S.ev x)).2) a w:=by
 have hps:=hS.ev hs;have hpx:=hS.ev hx;generalize S.ev s=p at hc hps;generalize hva:a.eval s=va at hps;generalize hxe:S.ev x=q at hc hpx;unfold ZhD at hc|-;cases hxs:Zbx S.objs q with
 |none=>rw[hxs]at hc;exact hc.elim
 |some xs=>
  rw[hxs]at hc;cases p<;>try (exact hc.elim)
  rename_i o sz off len cap;dsimp only at hc|-;cases hob:S.objs o with
  |row sz' l=>
   rw[hob]at hc;simp only at hc|-;obtain⟨hk,hz,h1,h2,h3,h4,h5,hcl⟩:=hc;subst h2;subst h3;obtain⟨ie,z,hie,hiz,hzs,hisz,hiby,hz1,hne,hzz,_⟩:=ZhO hz;have hu:=Zc6 hk;obtain⟨xb,xc,Zal,hxv,hnl,hf,hn1,hnat⟩:=Zmb (P:=P) hS hpx hxs hcl;have hoo:=hS.objs o;rw[hob]at hoo;have hrun:∀(base:Option Addr) (capr:Nat) (w':World),a.eval s= .slice base len capr->(match base with|some ad=>(storeCells ad Zal 0).run P w= .ok () w'|none=>w'=w)->
     (execOp a.eval ⟨dst, .call ⟨.builtin .copy,#[s,x],#[t,u]⟩,ty,pos,af,gd⟩).run P w= .ok (.value (.int .i64 len)) w':=by
    intro base capr w' hv hst;rw[hxv]at hf;have hsz:(sizeOf (tyi P t).elem).run P w= .ok sz w:=by
     simp[sizeOf,typeInfo,hie,hisz,h1]
    cases base with
    |none=>
     simp only at hst;subst hst;simp[execOp,resolve,invoke,builtin,Builtin.copy_,hv,hxv,run_underlying hu,Builtin.lenOf,hsz,h5,goInt];rw[h5]at hf;simp[hf]
    |some ad=>
     simp only at hst;simp[execOp,resolve,invoke,builtin,Builtin.copy_,hv,hxv,run_underlying hu,Builtin.lenOf,hsz,h5,goInt];rw[h5]at hf;simp[hf,hst]
   have app:∀(o':Nat) (ob:Ob) (rd:List Nat),S.app dst {val:= .int len,wr:=[(o',ob)],rd:=rd}=({env:=S.env,objs:=upd o' ob S.objs}:St).put dst (.int len):=by
    intro o' ob rd;cases dst<;>rfl
   rw[app];cases hps with
   |ref0 _ _ _ base=>
    have hl0:l=[]:=qF h4.symm;have hx0:xs=[]:=qF h5;subst hl0;subst hx0;have hn0:Zal=[]:=qF (by simpa using hnl);subst hn0;have e:upd o (.row sz []) S.objs=S.objs:=by
     funext k
     simp only[upd];split
     ·rename_i hk;rw[hk,hob]
     ·rfl
    rw[e];refine hS.goes hd (hrun base 0 w hva ?_) (.d _ _ (.sc _ rfl));cases base<;>rfl
   |ref _ _ _ _ _ capr b hι hl hcc hm hss=>
    cases hoo with
    |row0 _ hι0=>rw[hι0]at hι;cases hι
    |row _ _ b' c T hι' hb hsz hcl' hone h=>
     rw[hι]at hι';cases hι';have hnl':Zal.length=l.length*sz:=by rw[hnl,h5,h4]
     have hfit:0*sz+Zal.length<=c.size:=by omega
     have hst:=run_storeCells_at P b (0*sz) T Zal 0 c w hb (by omega) hn1;rw[gH]at hst;have h1':=hS.change (some b) o (.row sz xs) ι (w.setRow b (c.toList.take (0*sz)++Zal++c.toList.drop (0*sz+Zal.length)).toArray) rfl rfl rfl (by simp) (λ _ _=>rfl) (λ _ h=>h)
      (λ b' hb'=>by
       cases hb';exact⟨⟨o,hι⟩,λ o' hne hg ho'=>hne (hS.inj o' o b hg (by rw[hob];simp) ho' hι),by simp only[bsz,hb,setRow_heap w b c _ T (0,0) hb,ZcR c _ Zal hfit]⟩)
      (λ b' _ hne=>setRow_other w b b' _ (λ he=>hne (by rw[he])))
      (λ b' hb'=>⟨.inl ⟨hb',by rw[hob];simp⟩,by rw[Zj7];exact(hS.free o b' hb').2⟩) ?_
     ·exact⟨_,_,ι, .inl (hrun (some ⟨b,0*sz,none⟩) capr _ hva hst),h1'.put hd (.d _ _ (.sc _ rfl))⟩
     ·refine .row sz xs b _ T hι (setRow_heap w b c _ T (0,0) hb) ?_ hcl (λ j v hj=>?_) (λ i d j e v hi hj hv=>?_)
      ·rw[ZcR _ _ _ hfit,h5,h4];exact hsz
      ·rw[ZeL _ _ _ hfit]at hj;split at hj
       ·exact hone j v hj
       ·split at hj
        ·exact hn1 v (uA hj)
        ·exact hone j v hj
      ·have hil:=(uB.1 hi).1;have hjs:j<sz:=by rw[<-hcl d (uA hi)];exact(uB.1 hj).1
       have hlt:i*sz+j<Zal.length:=by
        have:(i+1)*sz<=xs.length*sz:=yF _ (by omega);rw[qE]at this;omega
       rw[ZeL _ _ _ hfit,if_neg (by omega),if_pos (by omega)]at hv;refine D.At.store hS hι hb (ZcR _ _ _ hfit) (hnat i d j e v hi hj ?_);rw[<-hv];congr 1;omega
  |_=>rw[hob]at hc;exact hc.elim
end hold
section hold
variable {P:Program}{B X:Nat->Prop}{w0:W0}{w:World}{n:Nat}{S:St}{a:Act}{ι:Nat->Option Nat}{dst:Option Nat}{ty:TypeId}{pos:String}{af:Array Edge}{gd:Option (Nat×Bool)}
theorem Zyc (hS:Hold B X w0 n S a w ι){b:Builtin}{as:Array Operand}{tys:Array TypeId}(hd:∀t,dst=some t->t<n)(hx:∀x∈as.toList,Zax x=true)
  (hc:(ZdL P S.objs dst b tys.toList (as.toList.map S.ev)).1):
  ZaJ P B X w0 n ⟨dst, .call ⟨.builtin b,as,tys⟩,ty,pos,af,gd⟩ (S.app dst (ZdL P S.objs dst b tys.toList (as.toList.map S.ev)).2) a w:=by
 obtain⟨as⟩:=as;obtain⟨tys⟩:=tys;simp only at hx hc|-;unfold ZdL at hc|-;split at hc
 ·
  rename_i t x he;obtain⟨y,rfl,rfl⟩:∃y,as=[y]/\S.ev y=x:=by
   match as,he with
   |[y],he=>exact⟨y,rfl,by simpa using he⟩
  have hp:=hS.ev (hx y (by simp));cases hl:ZcO (S.ev y)with
  |none=>
   rw[hl]at hc;simp only[Zgd]at hc|-;split at hc
   ·rename_i o ho;split at hc
    ·rename_i l hob;exact Zyl hS hd (hx y (by simp)) ho hob hc
    ·exact hc.elim
   ·rename_i s ho;rw[ho]at hp;simp only;rw[ZaM];refine hS.goes (v:= .int .i64 s.size) hd ?_ (.d _ _ (.sc _ rfl));simp[execOp,resolve,invoke,builtin,Zh4 hp,Builtin.len_,run_underlying (ZoY hc),goInt]
   ·exact hc.elim
  |some m=>
   rw[hl]at hc;simp only;rw[ZaM];obtain⟨bb,cc,hv⟩:=Zu2 hp hl;have hu:=Zc6 hc;refine hS.goes (v:= .int .i64 m) hd ?_ (.d _ _ (.sc _ rfl));simp[execOp,resolve,invoke,builtin,hv,Builtin.len_,run_underlying hu,goInt]
 ·
  rename_i p q he;obtain⟨y,z,rfl,e1,e2⟩:∃y z,as=[y,z]/\S.ev y= .d (.sc (.int .i64 p))/\S.ev z= .d (.sc (.int .i64 q)):=by
   match as,he with
   |[y,z],he=>simp at he;exact⟨y,z,rfl,he.1,he.2⟩
   |[],he=>simp at he
   |[_],he=>simp at he
   |_::_::_::_,he=>simp at he
  have h1:=hS.ev (hx y (by simp));have h2:=hS.ev (hx z (by simp));rw[e1]at h1;rw[e2]at h2;simp only;rw[ZaM];refine hS.goes (v:= .int .i64 (if q<p then q else p)) hd ?_ (.d _ _ (.sc _ rfl));simp[execOp,resolve,invoke,builtin,Zbc h1,Zbc h2,Builtin.min_,Builtin.min2]
 ·
  rename_i p q he;obtain⟨y,z,rfl,e1,e2⟩:∃y z,as=[y,z]/\S.ev y= .d (.sc (.int .i64 p))/\S.ev z= .d (.sc (.int .i64 q)):=by
   match as,he with
   |[y,z],he=>simp at he;exact⟨y,z,rfl,he.1,he.2⟩
   |[],he=>simp at he
   |[_],he=>simp at he
   |_::_::_::_,he=>simp at he
  have h1:=hS.ev (hx y (by simp));have h2:=hS.ev (hx z (by simp));rw[e1]at h1;rw[e2]at h2;simp only;rw[ZaM];refine hS.goes (v:= .int .i64 (if p<q then q else p)) hd ?_ (.d _ _ (.sc _ rfl));simp[execOp,resolve,invoke,builtin,Zbc h1,Zbc h2,Builtin.max_,Builtin.max2]
 ·
  rename_i p q r he;obtain⟨y,z,x,rfl,e1,e2,e3⟩:∃y z x,as=[y,z,x]/\S.ev y= .d (.sc (.int .i64 p))/\S.ev z= .d (.sc (.int .i64 q))/\S.ev x= .d (.sc (.int .i64 r)):=by
   match as,he with
   |[y,z,x],he=>simp at he;exact⟨y,z,x,rfl,he.1,he.2.1,he.2.2⟩
   |[],he=>simp at he
   |[_],he=>simp at he
   |[_,_],he=>simp at he
   |_::_::_::_::_,he=>simp at he
  have h1:=hS.ev (hx y (by simp));have h2:=hS.ev (hx z (by simp));have h3:=hS.ev (hx x (by simp));rw[e1]at h1;rw[e2]at h2;rw[e3]at h3;simp only;rw[ZaM];refine hS.goes (v:= .int .i64 (if r<(if q<p then q else p)then r else(if q<p then q else p))) hd ?_ (.d _ _ (.sc _ rfl));simp[execOp,resolve,invoke,builtin,Zbc h1,Zbc h2,Zbc h3,Builtin.min_,Builtin.min2]
 ·
  rename_i p q r he;obtain⟨y,z,x,rfl,e1,e2,e3⟩:∃y z x,as=[y,z,x]/\S.ev y= .d (.sc (.int .i64 p))/\S.ev z= .d (.sc (.int .i64 q))/\S.ev x= .d (.sc (.int .i64 r)):=by
   match as,he with
   |[y,z,x],he=>simp at he;exact⟨y,z,x,rfl,he.1,he.2.1,he.2.2⟩
   |[],he=>simp at he
   |[_],he=>simp at he
   |[_,_],he=>simp at he
   |_::_::_::_::_,he=>simp at he
  have h1:=hS.ev (hx y (by simp));have h2:=hS.ev (hx z (by simp));have h3:=hS.ev (hx x (by simp));rw[e1]at h1;rw[e2]at h2;rw[e3]at h3;simp only;rw[ZaM];refine hS.goes (v:= .int .i64 (if(if p<q then q else p)<r then r else(if p<q then q else p))) hd ?_ (.d _ _ (.sc _ rfl));simp[execOp,resolve,invoke,builtin,Zbc h1,Zbc h2,Zbc h3,Builtin.max_,Builtin.max2]
 ·
  rename_i t u s x he;obtain⟨y,z,rfl,rfl,rfl⟩:∃y z,as=[y,z]/\S.ev y=s/\S.ev z=x:=by
   match as,he with
   |[y,z],he=>simp at he;exact⟨y,z,rfl,he.1,he.2⟩
  cases hcx:Zdg S.objs (S.ev z)with
  |none=>
   rw[hcx]at hc;exact Zx3 hS hd (hx y (by simp)) (hx z (by simp)) hc
  |some q=>
   rw[hcx]at hc;exact Zx4 hS hd (hx y (by simp)) (hx z (by simp)) hcx hc
 ·
  rename_i t u s x he;obtain⟨y,z,rfl,rfl,rfl⟩:∃y z,as=[y,z]/\S.ev y=s/\S.ev z=x:=by
   match as,he with
   |[y,z],he=>simp at he;exact⟨y,z,rfl,he.1,he.2⟩
  exact Zye hS hd (hx y (by simp)) (hx z (by simp)) hc
 ·exact hc.elim
def Oper.plain (n:Nat)(o:Oper):Bool:=
 o.op.operands.toList.all Zax&&(match o.dst with|some t=>decide (t<n)|none=>true)&&(match o.op with| .store .. =>o.dst.isNone| .mapUpdate .. =>o.dst.isNone|_=>true)
theorem Zyw (htb:w0.tabs=tabs P)(hS:Hold B X w0 n S a w ι){own:Nat->Bool}(o:Oper)(hpl:Oper.plain n o=true)(hc:(sem P own S.ev S.objs o.dst o.op).1):
  ZaJ P B X w0 n o (S.app o.dst (sem P own S.ev S.objs o.dst o.op).2) a w:=by
 obtain⟨dst,op,ty,pos,af,gd⟩:=o;simp only[Oper.plain,uO,uW]at hpl;obtain⟨⟨hops,hdst⟩,hst⟩:=hpl;have hd:∀t,dst=some t->t<n:=by rintro t rfl;simpa using hdst
 simp only at hc hops hst|-;cases op with
 |move x=>exact Zys hS hd (hops x (by simp[Op.operands]))
 |assign x=>exact Zx6 hS hd (hops x (by simp[Op.operands]))
 |pick c x y=>exact Zyu hS hd (hops c (by simp[Op.operands])) (hops x (by simp[Op.operands])) (hops y (by simp[Op.operands])) hc
 |alloc T=>exact Zx2 hS hd hc
 |box T x=>exact Zx8 hS hd (hops x (by simp[Op.operands])) hc
 |build T ps=>exact Zx9 hS hd (λ p hp=>hops p.2 (by simp only[Op.operands,uN];exact⟨p,hp,rfl⟩)) hc
 |buildSlice T m ps=>
  have hq:∀p∈ps.toList,Zax p.2=true:=λ p hp=>hops p.2 (by simp only[Op.operands,uN];exact⟨p,hp,rfl⟩)
  simp only[sem]at hc|-;split at hc
  ·rename_i h1;rw[if_pos h1];exact Zya hS hd hq hc
  ·rename_i h1;rw[if_neg h1];exact Zyb hS hd hq hc
 |load T x=>exact Zym hS hd (hops x (by simp[Op.operands])) hc
 |store T x y=>exact Zyy hS (by simpa using hst) (hops x (by simp[Op.operands])) (hops y (by simp[Op.operands])) hc
 |fieldAddr T x f=>exact Zyh hS hd (hops x (by simp[Op.operands])) hc
 |indexAddr T x i=>
  cases x with
  |global g=>exact Zyi htb hS hd (hops i (by simp[Op.operands])) hc
  |_=>exact Zyk hS hd (hops _ (by simp[Op.operands])) (hops i (by simp[Op.operands])) hc
 |makeInterface T x=>exact Zyj hS hd (hops x (by simp[Op.operands])) hc
 |typeAssert x U T ok=>
  cases ok with
  |false=>exact Zx5 hS hd (hops x (by simp[Op.operands])) hc
  |true=>exact hc.elim
 |binOp op T x y T'=>exact Zx7 hS hd (hops x (by simp[Op.operands])) (hops y (by simp[Op.operands])) hc
 |unOp op T x=>exact ZyA hS hd (hops x (by simp[Op.operands])) hc
 |convert T U x=>exact Zyd hS hd (hops x (by simp[Op.operands])) hc
 |index T x i=>exact Zyz hS hd (hops x (by simp[Op.operands])) (hops i (by simp[Op.operands])) hc
 |slice T x lo hi mx=>exact Zyx hS hd (hops x (by simp[Op.operands])) (λ y hy=>hops y (by subst hy;simp[Op.operands])) (λ y hy=>hops y (by subst hy;simp[Op.operands])) (λ y hy=>hops y (by subst hy;simp[Op.operands])) hc
 |extract x i=>exact Zyg hS hd (hops x (by simp[Op.operands])) hc
 |nilCheck x=>exact Zyt hS hd (hops x (by simp[Op.operands])) hc
 |makeSlice T l c=>exact Zyq hS hd (hops l (by simp[Op.operands])) (hops c (by simp[Op.operands])) hc
 |makeFunc fn fi ca=>exact Zyo hS hd (λ x hx=>hops x (by simp only[Op.operands,Array.toList_append,yN];exact .inr hx)) hc
 |makeMap T r=>
  cases r with
  |none=>exact Zyp hS hd hc
  |some _=>exact hc.elim
 |mapUpdate T x y z=>exact Zyr hS (by simpa using hst) (hops x (by simp[Op.operands])) (hops y (by simp[Op.operands])) (hops z (by simp[Op.operands])) hc
 |lookup T x y ok=>
  cases ok with
  |false=>exact Zyn hS hd (hops x (by simp[Op.operands])) (hops y (by simp[Op.operands])) hc
  |true=>exact hc.elim
 |range T x=>exact Zyv hS hd (hops x (by simp[Op.operands])) hc
 |entry x=>exact Zyf hS hd (hops x (by simp[Op.operands])) hc
 |call c=>
  obtain⟨cal,as,tys⟩:=c;cases cal with
  |builtin b=>exact Zyc hS hd (λ x hx=>hops x (by simp only[Op.operands,Call.operands];simpa using hx)) hc
  |_=>exact hc.elim
 |_=>exact hc.elim
end hold
section
variable {P:Program}{own:Nat->Bool}{objs objs':Nat->Ob}
def Zgr (P:Program)(own:Nat->Bool)(o:Oper)(S:St)(e:Eff):Prop:=
 match o.op with
 | .call {callee:= .value f,args,.. }=>(∃r,ZhQ P S.objs (S.ev f) (args.toList.map S.ev) r/\e={val:= .d r,rd:=(args.toList.map S.ev).flatMap (PV.refs S.objs 4)})\/
   CallCondM P S.objs (S.ev f) (args.toList.map S.ev) e
 | .call {callee:= .invoke r m,args,.. }=>∃g recv rd e',Inv P S.objs (S.ev r) m g recv rd/\CallCondM P S.objs (.d (.fn g [])) (recv::args.toList.map S.ev) e'/\e={e' with rd:=rd++e'.rd}
 |op=>(sem P own S.ev S.objs o.dst op).1/\e=(sem P own S.ev S.objs o.dst op).2
def ZcI (P:Program)(own:Nat->Bool)(all:List Oper)(o:Oper)(S:St)(e:Eff):Prop:=
 match o.guard with
 |none=>Zgr P own o S e
 |some (j,want)=>∃g,grd all S j=some g/\if g=some want then Zgr P own o S e else e={val:= .und}
def Zi5 (P:Program)(own:Nat->Bool)(all:List Oper):List Oper->St->St->List Za9->Prop
 |[],S,S',fs=>S'=S/\fs=[]
 |o::rest,S,S',fs=>∃e fs',ZcI P own all o S e/\Zi5 P own all rest (S.app o.dst e) S' fs'/\fs=e.foot::fs'
theorem ZzX {o:Oper}{S:St}{fs:List Za9}{k:St->List Za9->Prop}(h:wpOp P own o S fs k):∃e,Zgr P own o S e/\k (S.app o.dst e) (e.foot::fs):=by
 obtain⟨dst,op,ty,pos,af,gd⟩:=o;cases op with
 |call c=>
  obtain⟨cal,as,tys⟩:=c;cases cal with
  |value f=>
   rcases h with⟨r,hc,hk⟩|⟨e,hc,hk⟩
   ·refine⟨_, .inl ⟨r,hc,rfl⟩,?_⟩;rw[Zg5];exact hk
   ·exact⟨_, .inr hc,hk⟩
  |builtin b=>exact⟨_,⟨h.1,rfl⟩,h.2⟩
  |invoke r m=>
   obtain⟨g,recv,rd,e,hI,hc,hk⟩:=h;exact⟨{e with rd:=rd++e.rd},⟨g,recv,rd,e,hI,hc,rfl⟩,hk⟩
 |_=>exact⟨_,⟨h.1,rfl⟩,h.2⟩
theorem ZxH {all:List Oper}:∀(ops:List Oper) (S:St) (fs:List Za9) (K:St->List Za9->Prop),Zab P own all ops S fs K->∃S' fs',Zi5 P own all ops S S' fs'/\K S' (fs'.reverse++fs):=by
 intro ops
 induction ops with
 |nil=>intro S fs K h;exact⟨S,[],⟨rfl,rfl⟩,h⟩
 |cons o rest ih=>
  intro S fs K h;have one:wpOp P own o S fs (λ S' fs'=>Zab P own all rest S' fs' K)->∃e S' fs',Zgr P own o S e/\Zi5 P own all rest (S.app o.dst e) S' fs'/\K S' (fs'.reverse++(e.foot::fs)):=by
   intro h;obtain⟨e,h1,h2⟩:=ZzX h;obtain⟨S',fs',h3,h4⟩:=ih _ _ _ h2;exact⟨e,S',fs',h1,h3,h4⟩
  simp only[Zab]at h;cases hg:o.guard with
  |none=>
   rw[hg]at h;obtain⟨e,S',fs',h1,h2,h3⟩:=one h;exact⟨S',e.foot::fs',⟨e,fs',by simp only[ZcI,hg];exact h1,h2,rfl⟩,by simpa using h3⟩
  |some q=>
   obtain⟨j,want⟩:=q;rw[hg]at h;simp only at h;cases hb:grd all S j with
   |none=>rw[hb]at h;exact h.elim
   |some b=>
    rw[hb]at h;simp only at h;split at h
    ·rename_i hw;obtain⟨e,S',fs',h1,h2,h3⟩:=one h;exact⟨S',e.foot::fs',⟨e,fs',by simp only[ZcI,hg];exact⟨b,hb,by rw[if_pos hw];exact h1⟩,h2,rfl⟩,by simpa using h3⟩
    ·rename_i hw;obtain⟨S',fs',h1,h2⟩:=ih _ _ _ h;exact⟨S',([],[])::fs',⟨{val:= .und},fs',by simp only[ZcI,hg];exact⟨b,hb,by rw[if_neg hw];trivial⟩,by rw[ZaM];exact h1,rfl⟩,by simpa using h2⟩
theorem Zkj :∀(k:Nat) (p:PV),(∀o∈p.refs objs k,objs' o=objs o)->toD objs' k p=toD objs k p/\p.refs objs' k=p.refs objs k:=by
 intro k
 induction k with
 |zero=>intro p _;exact⟨rfl,rfl⟩
 |succ k ih=>
  intro p h;have list:∀(cs:List PV),(∀o∈cs.flatMap (PV.refs objs k),objs' o=objs o)->cs.mapM (toD objs' k)=cs.mapM (toD objs k)/\cs.flatMap (PV.refs objs' k)=cs.flatMap (PV.refs objs k):=by
   intro cs
   induction cs with
   |nil=>intro _;exact⟨rfl,rfl⟩
   |cons c cs ihc=>
    intro hc;simp only[gE,yN]at hc;obtain⟨h1,h2⟩:=ih c (λ o ho=>hc o (.inl ho));obtain⟨h3,h4⟩:=ihc (λ o ho=>hc o (.inr ho));simp only[jT,gE,h1,h2,h3,h4,Bx]
  cases p with
  |d x=>exact⟨rfl,rfl⟩
  |nilS=>exact⟨rfl,rfl⟩
  |z0=>exact⟨rfl,rfl⟩
  |unk=>exact⟨rfl,rfl⟩
  |und=>exact⟨rfl,rfl⟩
  |ab=>exact⟨rfl,rfl⟩
  |mp _=>exact⟨rfl,rfl⟩
  |ifp _ _=>exact⟨rfl,rfl⟩
  |ref o sz off len cap=>
   have hm:o∈(PV.ref o sz off len cap).refs objs (k+1):=by simp only[PV.refs];split<;>simp
   have ho:=h o hm;simp only[PV.refs,toD]at h|-;rw[ho];cases hob:objs o with
   |dead=>exact⟨rfl,rfl⟩
   |gone=>exact⟨rfl,rfl⟩
   |row _ _=>exact⟨rfl,rfl⟩
   |imap _=>exact⟨rfl,rfl⟩
   |iter _ _ _=>exact⟨rfl,rfl⟩
   |cells cs=>
    rw[hob]at h;simp only at h|-;obtain⟨h1,h2⟩:=list ((cs.drop off).take len) (λ o ho=>h o (uM _ ho));rw[h1,h2];exact⟨rfl,rfl⟩
  |ptr o sz i c=>
   have hm:o∈(PV.ptr o sz i c).refs objs (k+1):=by simp only[PV.refs];split<;>simp
   have ho:=h o hm;simp only[PV.refs,toD]at h|-;rw[ho];cases hob:objs o with
   |dead=>exact⟨rfl,rfl⟩
   |gone=>exact⟨rfl,rfl⟩
   |row _ _=>exact⟨rfl,rfl⟩
   |imap _=>exact⟨rfl,rfl⟩
   |iter _ _ _=>exact⟨rfl,rfl⟩
   |cells cs=>
    rw[hob]at h;simp only at h|-;obtain⟨h1,h2⟩:=list cs (λ o ho=>h o (uM _ ho));rw[h1,h2];exact⟨rfl,rfl⟩
  |ag cs=>obtain⟨h1,h2⟩:=list cs (by simpa[PV.refs]using h);simp only[toD,PV.refs,h1,h2,Bx]
  |tup cs=>obtain⟨h1,h2⟩:=list cs (by simpa[PV.refs]using h);simp only[toD,PV.refs,h1,h2,Bx]
  |fn f cs=>obtain⟨h1,h2⟩:=list cs (by simpa[PV.refs]using h);simp only[toD,PV.refs,h1,h2,Bx]
theorem ZmJ (k:Nat):∀(cs:List PV),(∀o∈cs.flatMap (PV.refs objs k),objs' o=objs o)->cs.mapM (toD objs' k)=cs.mapM (toD objs k)/\cs.flatMap (PV.refs objs' k)=cs.flatMap (PV.refs objs k):=by
 intro cs
 induction cs with
 |nil=>intro _;exact⟨rfl,rfl⟩
 |cons c cs ihc=>
  intro hc;simp only[gE,yN]at hc;obtain⟨h1,h2⟩:=Zkj k c (λ o ho=>hc o (.inl ho));obtain⟨h3,h4⟩:=ihc (λ o ho=>hc o (.inr ho));simp only[jT,gE,h1,h2,h3,h4,Bx]
def Zco (e:Eff)(objs objs':Nat->Ob):Prop:=(∀o∈e.rd,objs' o=objs o)/\∀q∈e.wr,objs' q.1=objs q.1
theorem ZxP {ty:TyI}{p:PV}(ha:Zco (Zcz ty objs p).2 objs objs'):Zcz ty objs' p=Zcz ty objs p:=by
 cases p with
 |ptr o sz i c=>
  have:objs' o=objs o:=ha.1 o (by simp[Zcz]);simp only[Zcz,this]
 |d x=>cases x<;>rfl
 |_=>rfl
theorem ZxU {ty:TyI}{p:PV}{x:Option (List PV)}(ha:Zco (ZdR ty objs p x).2 objs objs'):ZdR ty objs' p x=ZdR ty objs p x:=by
 cases x with
 |none=>cases p<;>rfl
 |some vs=>
  cases p with
  |ptr o sz i c=>
   have:objs' o=objs o:=ha.2 (o,_) (by simp only[ZdR,uR];rfl);simp only[ZdR,this]
  |_=>rfl
theorem ZxK {dst:Option Nat}{st xt ety:TyI}{s x:PV}(hc:(Zdc objs dst st xt ety s x).1)(ha:Zco (Zdc objs dst st xt ety s x).2 objs objs'):
  Zdc objs' dst st xt ety s x=Zdc objs dst st xt ety s x:=by
 obtain⟨ys,t',hys,hdst,hdead,_,_,_,_,_,hcase⟩:=Zmk hc;have hrd:∀o∈Zb9 x,objs' o=objs o:=λ o ho=>by
  rcases hcase with⟨_,_,_,_,_,_,_,_,_,_,heq⟩|⟨_,_,heq⟩<;>
  ·rw[heq]at ha;exact ha.1 o ho
 have hx:Zbx objs' x=Zbx objs x:=by
  cases x with
  |ref o sz off len cap=>simp only[Zbx,hrd o (by simp[Zb9])]
  |d x=>cases x<;>rfl
  |_=>rfl
 have ht:objs' t'=objs t':=by
  rcases hcase with⟨_,_,_,_,_,_,_,_,_,_,heq⟩|⟨_,_,heq⟩<;>
  ·rw[heq]at ha;exact ha.2 (t',_) (by simp only[yH];exact .inl rfl)
 subst hdst;rcases hcase with⟨o,sz,len,cap,l,rfl,hob,_,_,_,heq⟩|⟨hs,_,heq⟩
 ·have ho:objs' o=objs o:=by rw[heq]at ha;exact ha.2 (o, .gone) (by simp)
  unfold Zdc;rw[hx,hys];simp only[ho,ht]
 ·unfold Zdc;rw[hx,hys];rcases hs with rfl|rfl<;>simp only[ht]
theorem ZnQ {x:PV}(h:∀o∈Zb9 x,objs' o=objs o):Zdg objs' x=Zdg objs x:=by
 cases x with
 |ref o sz off len cap=>simp only[Zdg,h o (by simp[Zb9])]
 |_=>rfl
theorem ZyQ {x p:PV}{o2:Nat}(h:Zdg objs x=some (p,o2)):Zb9 x=[o2]:=by
 cases x<;>try (simp only[Zdg]at h;cases h;done)
 rename_i o sz off len cap;simp only[Zdg]at h;cases ho:ZiC (objs o)with
 |none=>rw[ho]at h;cases h
 |some q=>
  rw[ho]at h;simp only at h;split at h
  ·cases h;rfl
  ·cases h
theorem ZxJ {dst:Option Nat}{st xt ety:TyI}{s p:PV}{o2:Nat}(hc:(Ze3 objs dst st xt ety s p o2).1)(ha:Zco (Ze3 objs dst st xt ety s p o2).2 objs objs'):
  Ze3 objs' dst st xt ety s p o2=Ze3 objs dst st xt ety s p o2/\objs' o2=objs o2:=by
 unfold Ze3 at hc ha|-;split at hc
 ·rename_i t o sz off len cap;cases hcs:Zgz (objs o)with
  |none=>rw[hcs]at hc;exact hc.elim
  |some cs=>
   simp only[hcs]at ha;have h1:objs' o=objs o:=ha.2 (o, .gone) (by simp);have h2:objs' t=objs t:=ha.2 (t,_) (by simp only[yH];exact .inl rfl);have h3:objs' o2=objs o2:=ha.1 o2 (by simp);simp only[h1,h2,h3,hcs,and_true]
 ·exact hc.elim
theorem ZxL {dst:Option Nat}{ty ety:TyI}{n:Nat}{ps:List (Nat×PV)}(ha:Zco (ZdK objs dst ty ety n ps).2 objs objs'):ZdK objs' dst ty ety n ps=ZdK objs dst ty ety n ps:=by
 unfold ZdK at ha|-;split
 ·simp only at ha;rename_i t i p;rw[ha.2 (t,_) (by simp only[uR];rfl)]
 ·rfl
theorem ZxR {ty:TyI}{dst:Option Nat}(ha:Zco (ZdO ty objs dst).2 objs objs'):ZdO ty objs' dst=ZdO ty objs dst:=by
 cases dst with
 |none=>rfl
 |some t=>
  have:objs' t=objs t:=ha.2 (t,_) (by simp only[ZdO,uR];rfl);simp only[ZdO,this]
theorem ZxS {ty:TyI}{m k v:PV}(hc:(ZdP ty objs m k v).1)(ha:Zco (ZdP ty objs m k v).2 objs objs'):ZdP ty objs' m k v=ZdP ty objs m k v:=by
 unfold ZdP at hc ha|-;split at hc
 ·rename_i o a c;split at hc
  ·rename_i l hl;simp only[hl]at ha|-;have:objs' o=objs o:=ha.2 (o,_) (by simp only[uR];rfl);simp only[this,hl]
  ·exact hc.elim
 ·exact hc.elim
theorem ZxQ {ty:TyI}{m k:PV}(hc:(ZdN ty objs m k).1)(ha:Zco (ZdN ty objs m k).2 objs objs'):ZdN ty objs' m k=ZdN ty objs m k:=by
 unfold ZdN at hc ha|-;split at hc
 ·rename_i o a;split at hc
  ·rename_i l hl;simp only[hl]at ha|-;have:objs' o=objs o:=ha.1 o (by simp);simp only[this,hl]
  ·exact hc.elim
 ·exact hc.elim
theorem ZxT {ty:TyI}{dst:Option Nat}{m:PV}(hc:(ZdQ ty objs dst m).1)(ha:Zco (ZdQ ty objs dst m).2 objs objs'):ZdQ ty objs' dst m=ZdQ ty objs dst m:=by
 unfold ZdQ at hc ha|-;split at hc
 ·rename_i t o;split at hc
  ·rename_i l hl;simp only[hl]at ha|-;have h1:objs' o=objs o:=ha.1 o (by simp);have h2:objs' t=objs t:=ha.2 (t,_) (by simp only[uR];rfl);simp only[h1,h2,hl]
  ·exact hc.elim
 ·exact hc.elim
theorem ZxN {x:PV}(hc:(ZdM objs x).1)(ha:Zco (ZdM objs x).2 objs objs'):ZdM objs' x=ZdM objs x:=by
 unfold ZdM at hc ha|-;split at hc
 ·rename_i o sz;split at hc
  ·rename_i m k sn hi;split at hc
   ·rename_i l j hl hj;simp only[hi,hl,hj]at ha|-;have h1:objs' o=objs o:=ha.1 o (by simp);have h2:objs' m=objs m:=ha.1 m (by simp);simp only[h1,h2,hi,hl,hj]
   ·exact hc.elim
  ·exact hc.elim
 ·exact hc.elim
theorem ZxO {ty:TyI}{x:PV}(hc:(Zgd ty objs x).1)(ha:Zco (Zgd ty objs x).2 objs objs'):Zgd ty objs' x=Zgd ty objs x:=by
 unfold Zgd at hc ha|-;split at hc
 ·rename_i o;split at hc
  ·rename_i l hl;simp only[hl]at ha|-;have:objs' o=objs o:=ha.1 o (by simp);simp only[this,hl]
  ·exact hc.elim
 ·rfl
 ·exact hc.elim
theorem ZxM {dst:Option Nat}{b:Builtin}{tys:List TypeId}{xs:List PV}(hc:(ZdL P objs dst b tys xs).1)(ha:Zco (ZdL P objs dst b tys xs).2 objs objs'):
  ZdL P objs' dst b tys xs=ZdL P objs dst b tys xs:=by
 unfold ZdL at hc ha|-;split at hc<;>try first|rfl|exact hc.elim
 ·rename_i t x;simp only at ha|-;cases hl:ZcO x with
  |some n=>rfl
  |none=>rw[hl]at hc ha;exact ZxO hc ha
 ·rename_i t u s x;simp only at ha|-;cases hx:Zdg objs x with
  |some q=>
   obtain⟨p,o2⟩:=q;rw[hx]at hc ha;obtain⟨h1,h2⟩:=ZxJ hc ha;rw[ZnQ (objs:=objs) (λ o ho=>by rw[ZyQ hx]at ho;rw[uR.1 ho];exact h2),hx];exact h1
  |none=>
   rw[hx]at hc ha;have hrd:∀o∈Zb9 x,objs' o=objs o:=λ o ho=>by
    obtain⟨_,_,_,_,_,_,_,_,_,_,hcase⟩:=Zmk hc;rcases hcase with⟨_,_,_,_,_,_,_,_,_,_,heq⟩|⟨_,_,heq⟩<;>
    ·rw[heq]at ha;exact ha.1 o ho
   rw[ZnQ hrd,hx];exact ZxK hc ha
 ·rename_i t u s x;simp only at ha|-;unfold ZhD at hc ha|-;cases hxs:Zbx objs x with
  |none=>rw[hxs]at hc;exact hc.elim
  |some xs=>
   rw[hxs]at hc ha;cases s<;>try (exact hc.elim)
   rename_i o sz off len cap;dsimp only at hc ha|-;cases hob:objs o with
   |row sz' l=>
    rw[hob]at hc ha;have h1:objs' o=objs o:=ha.2 (o,_) (by simp only[uR];rfl);have h2:Zbx objs' x=some xs:=by
     rw[<-hxs];cases x with
     |ref o2 _ _ _ _=>simp only[Zbx,ha.1 o2 (by simp[Zb9])]
     |d x=>cases x<;>rfl
     |_=>rfl
    rw[h2];dsimp only;rw[h1,hob]
   |_=>rw[hob]at hc;exact hc.elim
theorem ZxV {ev ev':Operand->PV}{dst:Option Nat}{op:Op}(hev:∀x∈op.operands,ev' x=ev x)(hc:(sem P own ev objs dst op).1)(ha:Zco (sem P own ev objs dst op).2 objs objs'):
  sem P own ev' objs' dst op=sem P own ev objs dst op:=by
 cases op with
 |move x=>simp only[sem,hev x (by simp[Op.operands])]
 |assign x=>simp only[sem,hev x (by simp[Op.operands])]
 |pick c a b=>simp only[sem,hev c (by simp[Op.operands]),hev a (by simp[Op.operands]),hev b (by simp[Op.operands])]
 |alloc T=>
  simp only[sem,Zfw]at hc ha|-;cases dst with
  |none=>rfl
  |some t=>simp only at ha|-;rw[ha.2 (t,_) (by simp only[uR];rfl)]
 |box T x=>
  simp only[sem,Zfx,hev x (by simp[Op.operands])]at hc ha|-;cases dst with
  |none=>rfl
  |some t=>
   cases hcs:(ev x).cells? with
   |none=>rfl
   |some cs=>rw[hcs]at ha;simp only at ha|-;rw[ha.2 (t,_) (by simp only[uR];rfl)]
 |build T ps=>
  simp only[sem];have:(ps.toList.map λ p=>(p.1,ev' p.2))=ps.toList.map λ p=>(p.1,ev p.2):=yE λ p hp=>by
   rw[hev p.2 (by simp only[Op.operands,List.mem_toArray,uN];exact⟨p,hp,rfl⟩)]
  rw[this]
 |buildSlice T n ps=>
  have hps:(ps.toList.map λ p=>(p.1,ev' p.2))=ps.toList.map λ p=>(p.1,ev p.2):=yE λ p hp=>by
   rw[hev p.2 (by simp only[Op.operands,List.mem_toArray,uN];exact⟨p,hp,rfl⟩)]
  simp only[sem,hps]at hc ha|-;generalize ZpM own dst=ow at hc ha|-;generalize ps.toList.map (λ p=>(p.1,ev p.2))=qs at hc ha|-;by_cases hr1:Zik qs=true
  ·simp only[if_pos hr1]at ha|-;exact ZxL ha
  simp only[if_neg hr1]at hc ha|-;unfold Ze4 at hc ha|-;generalize hl:Zfe (tyi P (tyi P T).elem).size (List.replicate n (.ofCells (tyi P (tyi P T).elem).agg ((tyi P (tyi P T).elem).zero.map cellD))) (qs.map λ p=>(p.1,toD objs 4 p.2))=res at hc ha;have hrefs:(qs.map (·.2)).flatMap (PV.refs objs 4)=[]:=by
   cases res with
   |none=>exact hc.elim
   |some l=>
    cases ow with
    |true=>cases dst with
           |none=>exact hc.elim
           |some t=>exact hc.2.2.2.1
    |false=>exact hc.2.2.2
  have hq:∀p∈qs,toD objs' 4 p.2=toD objs 4 p.2/\p.2.refs objs' 4=p.2.refs objs 4:=λ p hp=>by
   refine Zkj 4 p.2 (λ o ho=>?_);rw[Au]at hrefs;rw[hrefs p.2 (jP hp)]at ho;cases ho
  have h1:(qs.map λ p=>(p.1,toD objs' 4 p.2))=qs.map λ p=>(p.1,toD objs 4 p.2):=yE λ p hp=>by rw[(hq p hp).1]
  have h2:(qs.map (·.2)).flatMap (PV.refs objs' 4)=(qs.map (·.2)).flatMap (PV.refs objs 4):=(ZmJ 4 _ (λ o ho=>by rw[hrefs]at ho;cases ho)).2;rw[h1,hl,h2];cases res with
  |none=>rfl
  |some l=>
   cases ow with
   |true=>cases dst with
          |none=>rfl
          |some t=>simp only[if_true]at ha|-;rw[ha.2 (t,_) (by simp only[uR];rfl)]
   |false=>rfl
 |load T x=>
  simp only[sem,hev x (by simp[Op.operands])]at hc ha|-;exact ZxP ha
 |store T x y=>
  simp only[sem,hev x (by simp[Op.operands]),hev y (by simp[Op.operands])]at hc ha|-;exact ZxU ha
 |fieldAddr T x f=>simp only[sem,hev x (by simp[Op.operands])]
 |indexAddr T x i=>
  have h1:=hev x (by simp[Op.operands]);have h2:=hev i (by simp[Op.operands]);cases x<;>simp only[sem,h1,h2]
 |makeInterface T x=>simp only[sem,hev x (by simp[Op.operands])]
 |typeAssert x U T ok=>
  cases ok with
  |false=>simp only[sem,hev x (by simp[Op.operands])]
  |true=>rfl
 |binOp op T x y T'=>simp only[sem,hev x (by simp[Op.operands]),hev y (by simp[Op.operands])]
 |unOp op T x=>simp only[sem,hev x (by simp[Op.operands])]
 |convert T U x=>simp only[sem,hev x (by simp[Op.operands])]
 |index T x i=>simp only[sem,hev x (by simp[Op.operands]),hev i (by simp[Op.operands])]
 |extract x i=>simp only[sem,hev x (by simp[Op.operands])]
 |nilCheck x=>simp only[sem,hev x (by simp[Op.operands])]
 |slice T x lo hi mx=>
  have e1:lo.map ev'=lo.map ev:=by cases lo with|none=>rfl|some y=>simp only[yV,hev y (by simp[Op.operands])]
  have e2:hi.map ev'=hi.map ev:=by cases hi with|none=>rfl|some y=>simp only[yV,hev y (by simp[Op.operands])]
  have e3:mx.map ev'=mx.map ev:=by cases mx with|none=>rfl|some y=>simp only[yV,hev y (by simp[Op.operands])]
  simp only[sem,hev x (by simp[Op.operands]),e1,e2,e3]
 |makeSlice T l c=>
  simp only[sem,hev l (by simp[Op.operands]),hev c (by simp[Op.operands])]at hc ha|-;unfold Zfy at hc ha|-;split at hc
  ·rename_i t n m h1 h2;rw[h1,h2]at ha;simp only at ha;rw[ha.2 (t,_) (by simp only[uR];rfl)]
  ·exact hc.elim
 |makeFunc fn fi ca=>
  have h1:fi.toList.map ev'=fi.toList.map ev:=yE λ x hx=>hev x (by simp only[Op.operands,Array.mem_append];exact .inl (by simpa using hx))
  have h2:ca.toList.map ev'=ca.toList.map ev:=yE λ x hx=>hev x (by simp only[Op.operands,Array.mem_append];exact .inr (by simpa using hx))
  simp only[sem,h1,h2]
 |makeMap T r=>
  cases r with
  |none=>exact ZxR ha
  |some _=>rfl
 |mapUpdate T x y z=>
  simp only[sem,hev x (by simp[Op.operands]),hev y (by simp[Op.operands]),hev z (by simp[Op.operands])]at hc ha|-;exact ZxS hc ha
 |lookup T x y ok=>
  cases ok with
  |true=>rfl
  |false=>
   simp only[sem,hev x (by simp[Op.operands]),hev y (by simp[Op.operands])]at hc ha|-;exact ZxQ hc ha
 |range T x=>
  simp only[sem,hev x (by simp[Op.operands])]at hc ha|-;exact ZxT hc ha
 |entry x=>
  simp only[sem,hev x (by simp[Op.operands])]at hc ha|-;exact ZxN hc ha
 |call c=>
  obtain⟨cal,as,tys⟩:=c;cases cal with
  |builtin b=>
   have hm:as.toList.map ev'=as.toList.map ev:=yE λ x hx=>hev x (by simp only[Op.operands,Call.operands];simpa using hx)
   simp only[sem,hm]at hc ha|-;exact ZxM hc ha
  |_=>rfl
 |_=>rfl
end
end Go.PS
