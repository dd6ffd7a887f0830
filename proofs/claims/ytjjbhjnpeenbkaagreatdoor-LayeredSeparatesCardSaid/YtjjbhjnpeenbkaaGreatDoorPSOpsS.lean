/- Strings: their bytes, and conversions. -/
import Derived.Test.YtjjbhjnpeenbkaaGreatDoorPSOps7b
import Derived.Lib.ConvBytes
set_option linter.unusedSimpArgs false
set_option linter.unusedVariables false
set_option maxHeartbeats 16000000
namespace Go.PS
open Go
section hold
variable {P:Program}{B X:Nat->Prop}{w0:W0}{w:World}{n:Nat}{S:St}{a:Act}{ι:Nat->Option Nat}{dst:Option Nat}{ty:TypeId}{pos:String}{af:Array Edge}{gd:Option (Nat×Bool)}
theorem Zr7 {t:TypeId}(h:(tyi P t).kind=8):P.underlying t=some .string:=by
 simp only[tyi]at h;cases hu:P.underlying t with
 |none=>rw[hu]at h;simp at h
 |some d=>rw[hu]at h;cases d<;>first|(simp at h;done)|(dsimp only at h;split at h<;>cases h;done)|rfl
theorem ZwX {t:TypeId}(h:(tyi P t).bk=true):P.underlying t=some (.int .u8):=by
 simp only[tyi]at h;split at h
 ·assumption
 ·cases h
theorem ZfQ (s:ByteArray):(Zc4 s).length=s.size:=by simp[Zc4]
theorem ZEi (hS:Hold B X w0 n S a w ι){T:TypeId}{x i:Operand}(hd:∀t,dst=some t->t<n)(hx:ZaD x=true)(hi:ZaD i=true)
  (hc:(Zhn (tyi P T) (S.ev x) (S.ev i)).1):ZaQ P B X w0 n ⟨dst, .index T x i,ty,pos,af,gd⟩ (S.app dst (Zhn (tyi P T) (S.ev x) (S.ev i)).2) a w:=by
 have hp:=hS.ev hx;have hq:=hS.ev hi;generalize S.ev x=p at hc hp;generalize S.ev i=q at hc hq;unfold Zhn at hc|-;split at hc
 ·rename_i s m;obtain⟨hk,h0,hm⟩:=hc;simp only;rw[ZaT];have e1:=ZjM hp;have e2:=Zbt hq;obtain⟨k,rfl⟩:∃k:Nat,m=k:=⟨m.toNat,by omega⟩;simp only[uM]at hm|-;have hg:s[k]? =some s[k]:=by simp[hm]
  have he:(Zc4 s).getD k 0=(s[k].toNat:Int):=by
   rw[gW,Zc4,uI];have:s.data.toList[k]? =some s[k]:=by
    rw[qS];exact uU hm
   rw[this];rfl
  rw[he];refine hS.goes (v:= .int .u8 (s[k].toNat:Int)) hd ?_ (.d _ _ (.sc _ rfl));simp only[execOp,e1,e2,Instr.index,Sem.run_bind,ZwE rfl,Result.andThen_ok,run_underlying (Zr7 hk)];rw[if_pos (by omega:(0:Int)<=(k:Int)),uM,hg];rfl
 ·exact hc.elim
theorem ZDX (hS:Hold B X w0 n S a w ι){T U:TypeId}{x:Operand}(hd:∀t,dst=some t->t<n)(hx:ZaD x=true)
  (hc:(Zhq (P.underlying T) (P.underlying U) (tyi P U) (tyi P (tyi P U).elem) (S.ev x)).1):ZaQ P B X w0 n ⟨dst, .convert T U x,ty,pos,af,gd⟩ (S.app dst (Zhq (P.underlying T) (P.underlying U) (tyi P U) (tyi P (tyi P U).elem) (S.ev x)).2) a w:=by
 have hp:=hS.ev hx;generalize S.ev x=p at hc hp;cases h1:P.underlying T with
 |none=>rw[h1]at hc;exact hc.elim
 |some d1=>
  cases h2:P.underlying U with
  |none=>rw[h1,h2]at hc;exact hc.elim
  |some d2=>
   rw[h1,h2]at hc;unfold Zhq at hc|-;split at hc
   ·rename_i k j m e1 e2;cases e1;cases e2;simp only;rw[ZaT];have e1:=ZgZ hp;exact hS.goes (v:= .int k (k.wrap m)) hd (by simp only[execOp,e1,convert,Sem.run_bind,run_underlying h1,run_underlying h2,Result.andThen_ok];rfl) (.d _ _ (.sc _ rfl))
   ·rename_i s e1 e2;cases e1;cases e2;obtain⟨hk,hb,hs⟩:=hc;simp only;rw[ZaT];have e1:=ZjM hp;have hr:=Lib.run_convert_string_bytes (P:=P) w T U (tyi P U).elem s h1 (ZdT hk) (ZwX hb);have hS':=hS.ext (w':=Lib.bytesWorld w (tyi P U).elem s) ⟨by simp[Lib.bytesWorld,World.freeze,World.alloc,World.drew,-World.alloc_eq,-World.drew_eq],by simp[Lib.bytesWorld,World.freeze,World.alloc,World.drew,-World.alloc_eq,-World.drew_eq],
     by simp[Lib.bytesWorld,World.freeze,World.alloc,World.drew,-World.alloc_eq,-World.drew_eq],by rw[Lib.bytesWorld_size];omega,λ k hk=>Lib.bytesWorld_at_old w _ s k hk⟩
    refine⟨.slice (some ⟨w.heap.size,0,none⟩) s.size (grownCap w s.size 0 (tyi P U).elem),_,ι, .inl (by simp only[execOp,e1,Sem.run_bind,hr,Result.andThen_ok,Sem.run_pure]),hS'.put hd (.d _ _ ?_)⟩;have hgc:grownCap w s.size 0 (tyi P U).elem<=maxLen/\s.size<=grownCap w s.size 0 (tyi P U).elem:=by
     simp only[roomy]at hs;have:=De (w.tape w.drawn (.appendCap s.size 0 (tyi P U).elem)) (show 0<2^63-s.size by omega);simp only[grownCap,maxLen,Question.cut];omega
    have:=D.At.sl (w:=Lib.bytesWorld w (tyi P U).elem s) (X:=ownX ι X) (Zdw s) w.heap.size 0 (grownCap w s.size 0 (tyi P U).elem) 1 (by simp[Zdw,ZfQ,hgc.2]) hgc.1 (λ d hd=>by
      obtain⟨b,_,rfl⟩:=uP.1 hd;rfl) (λ i _=> .int .u8 ((Zc4 s).getD i 0)) (λ i d j c hi hj=>?_) (λ i d j c hi hj=>?_)
    ·rw[show(Zdw s).length=s.size by simp[Zdw,ZfQ]]at this;exact this
    ·have hi2:i<s.size:=by have:=(uB.1 hi).1;simpa[Zdw,ZfQ]using this
     have hb2:(Zdw s)[i]? =some (.sc (.int .u8 ((Zc4 s).getD i 0))):=by
      rw[Zdw,uI,uR (by rw[ZfQ];exact hi2),gW,uR (by rw[ZfQ];exact hi2)];rfl
     rw[hb2]at hi;cases hi;cases j with
     |zero=>
      refine⟨?_,rfl,λ ho=>?_⟩
      ·have:=Lib.bytesWorld_cell w (tyi P U).elem s i hi2;simp only[qT,jS,gX];rw[this];simp[Zc4,gW,hi2]
      ·have:=hS.ownlt ho;omega
     |succ j=>simp[D.cells]at hj
    ·have hi2:i<s.size:=by have:=(uB.1 hi).1;simpa[Zdw,ZfQ]using this
     have hb2:(Zdw s)[i]? =some (.sc (.int .u8 ((Zc4 s).getD i 0))):=by
      rw[Zdw,uI,uR (by rw[ZfQ];exact hi2),gW,uR (by rw[ZfQ];exact hi2)];rfl
     rw[hb2]at hi;cases hi;cases j with
     |zero=>cases hj;exact .sc _ rfl
     |succ j=>simp[D.cells]at hj
   ·exact hc.elim
end hold
section hold
variable {P:Program}{B X:Nat->Prop}{w0:W0}{w:World}{n:Nat}{S:St}{a:Act}{ι:Nat->Option Nat}{dst:Option Nat}{ty:TypeId}{pos:String}{af:Array Edge}{gd:Option (Nat×Bool)}
theorem ZrG (hS:Hold B X w0 n S a w ι){o:Oper}{t:Nat}(hdst:o.dst=some t)(ht:t<n)(hdead:S.objs t= .dead){w':World}{k cap:Nat}{cs:List PV}{arr:Array Value}{e:TypeId}
  (hr:(execOp a.eval o).run P w= .ok (.value (.slice (some ⟨w.heap.size,0,none⟩) k cap)) w')(hos:w'.os=w.os)(htp:w'.tape=w.tape)(hout:w'.output=w.output)(hsz:w'.heap.size=w.heap.size+1)
  (hold:∀b,b<w.heap.size->w'.heap[b]? =w.heap[b]?)(hnew:w'.heap[w.heap.size]? =some (.cells arr e (0,0)))(hk:cs.length=k)(hcap:k<=cap)(hcm:cap<=maxLen)(has:arr.size=cap)
  (hone:∀(j:Nat) (v:Value),arr[j]? =some v->v.oneCell'=true)(hat:∀(j:Nat) p v,cs[j]? =some p->arr[j]? =some v->PV.At w ι X p v):
  ZaQ P B X w0 n o (S.app o.dst {val:= .ref t 1 0 k k,wr:=[(t, .cells cs)]}) a w:=by
 have hob:Ob.At w' (upd t (some w.heap.size) ι) X t (.cells cs):=
  .cells cs w.heap.size arr e (if_pos rfl) hnew (by rw[has,hk];exact hcap) hone λ j p v hj hv=>(hat j p v hj hv).alloc hS hdead hold
 have h1:=hS.alloc hdead w' hos htp hout hsz hold _ hob;refine⟨_,_,upd t (some w.heap.size) ι, .inl hr,?_⟩;have h2:=h1.put (dst:=o.dst) (x:= .ref t 1 0 k k) (v:= .slice (some ⟨w.heap.size,0*1,none⟩) k cap) (λ u hu=>by rw[hdst]at hu;cases hu;exact ht)
  (.ref t 1 0 _ _ cap w.heap.size (if_pos rfl) hcap hcap hcm (by simp only[bsz,hnew,has,qT,jS]))
 rw[jK]at h2;rw[hdst]at h2|-;exact h2
theorem ZDU (hS:Hold B X w0 n S a w ι){T:TypeId}{m:Nat}{ps:Array (Nat×Operand)}(hd:∀t,dst=some t->t<n)(hx:∀p∈ps.toList,ZaD p.2=true)
  (hc:(ZeH S.objs dst (tyi P T) (tyi P (tyi P T).elem) m (ps.toList.map λ p=>(p.1,S.ev p.2))).1):
  ZaQ P B X w0 n ⟨dst, .buildSlice T m ps,ty,pos,af,gd⟩ (S.app dst (ZeH S.objs dst (tyi P T) (tyi P (tyi P T).elem) m (ps.toList.map λ p=>(p.1,S.ev p.2))).2) a w:=by
 unfold ZeH at hc|-;split at hc
 ·rename_i t i p hps;obtain⟨hk,hz,hs1,rfl,rfl,hrf,hdead⟩:=hc;have hu:=ZdT hk;obtain⟨ie,z,hie,hiz,hzs,hisz,_,hz1,hne,hzz,_⟩:=Zjw hz;generalize he:(tyi P (tyi P T).elem)=ety at*;obtain⟨q,hq,hqp⟩:∃q,ps.toList=[q]/\(q.1,S.ev q.2)=(0,p):=by
   cases hpl:ps.toList with
   |nil=>rw[hpl]at hps;cases hps
   |cons q qs=>
    rw[hpl]at hps;simp only[uT,List.cons.injEq,List.map_eq_nil_iff]at hps;obtain⟨h1,rfl⟩:=hps;exact⟨q,rfl,h1⟩
  obtain⟨q1,q2⟩:=q;simp only[Bl]at hqp;obtain⟨rfl,hqp⟩:=hqp;have hp:=hS.ev (hx (0,q2) (by rw[hq];exact uS.2 rfl));simp only at hp;rw[hqp]at hp;have hpc:p.cells?=some [p]:=by cases p<;>first|rfl|cases hrf
  obtain⟨c1,c2,c3⟩:=hp.cells hpc;obtain⟨z0,hz0⟩:∃z0,z.cells=#[z0]:=by
   have:z.cells.size=1:=hzs.trans hs1;exact⟨z.cells[0],by
    refine Array.ext (by simpa using this) λ i h1 h2=>?_
    have:i=0:=by simp at h2;exact h2
    subst this;rfl⟩
  have hone:∃v0,(a.eval q2).cells=#[v0]:=by
   refine⟨(a.eval q2).cells[0]'(by rw[c1];exact Nat.one_pos),?_⟩;refine Array.ext (by simpa using c1) λ i h1 h2=>?_
   have:i=0:=by simp at h2;exact h2
   subst this;rfl
  obtain⟨v0,hv0⟩:=hone;have ha':Instr.fill (λ i=>some (i*1,1)) ((Array.range (1*1)).map (λ k=>z.cells[k%z.cells.size]!)) [(0,a.eval q2)]=some #[v0]:=by
   have e0:(Array.range (1*1)).map (λ k=>z.cells[k%z.cells.size]!)=#[z0]:=by
    rw[hz0];refine Array.ext (by simp) λ i h1 h2=>?_
    have:i=0:=by simp at h2;exact h2
    subst this;simp
   rw[e0];simp[Instr.fill,hv0]
  have hr:(Instr.buildSlice T 1 (ps.map λ(i,x)=>(i,a.eval x))).run P w= .ok (.slice (some ⟨w.heap.size,0,none⟩) 1 1) (w.alloc (.cells #[v0] (tyi P T).elem)):=by
   simp only[Instr.buildSlice,Sem.run_bind,run_underlying hu,Result.andThen_ok,sizeOf,typeInfo,hie,run_program,Sem.run_pure,Sem.run_ite];rw[hisz,hs1];simp only[show¬(1*1>2^24) by omega,jA,Sem.run_pure,Result.andThen_ok,jS,Nat.one_ne_zero,Sem.run_bind,zeroValue,typeInfo,hie,hiz,run_program];simp only[Array.toList_map,hq,uT,yH];rw[jS]at ha';simp only[jS]at ha';rw[ha'];simp[newRow]
  refine ZrG (P:=P) (o:=⟨some t, .buildSlice T 1 ps,ty,pos,af,gd⟩) hS rfl (hd t rfl) hdead (w':=w.alloc (.cells #[v0] (tyi P T).elem)) (k:=1) (cap:=1) (cs:=[p]) (arr:=#[v0]) (e:=(tyi P T).elem)
   (by simp only[execOp,Sem.run_bind,hr,Result.andThen_ok,Sem.run_pure]) rfl rfl rfl (by simp) (λ b hb=>heap_alloc_old w _ hb) (heap_alloc_new w _) rfl (uJ _) (by decide) rfl (λ j v hj=>c2 j v (by rw[hv0];exact hj)) λ j p' v hj hv=>?_
  exact c3 j p' v hj (by rw[hv0];exact hv)
 ·exact hc.elim
theorem Zxj {o:Nat}{ob:Ob}{cs:List PV}(h:Ob.At w ι X o ob)(hc:ZhU ob=some cs):
  (ι o=none/\cs=[])\/∃b arr T,ι o=some b/\w.heap[b]? =some (.cells arr T (0,0))/\cs.length<=arr.size/\(∀(j:Nat) (v:Value),arr[j]? =some v->v.oneCell'=true)/\
   ∀(j:Nat) p v,cs[j]? =some p->arr[j]? =some v->PV.At w ι X p v:=by
 cases h with
 |dead=>cases hc
 |gone=>cases hc
 |imap=>cases hc
 |iter=>cases hc
 |cells cs' b arr T hι hb hsz hone h=>cases hc;exact .inr ⟨b,arr,T,hι,hb,hsz,hone,h⟩
 |row0 sz h=>
  simp only[ZhU]at hc;split at hc
  ·cases hc;exact .inl ⟨h,rfl⟩
  ·cases hc
 |row sz l b arr T hι hb hsz hcl hone h=>
  simp only[ZhU]at hc;split at hc
  ·cases hc;exact .inr ⟨b,arr,T,hι,hb,uH _,hone,λ j p v hj=>by simp at hj⟩
  ·cases hc
theorem Zxi (hS:Hold B X w0 n S a w ι){x:PV}{v:Value}{p:PV}{o2:Nat}(h:Zd3 S.objs x=some (p,o2))(hx:PV.At w ι X x v):
  ∃b c,v= .slice (some ⟨b,0,none⟩) 1 c/\∃arr T u,w.heap[b]? =some (.cells arr T (0,0))/\arr[0]? =some u/\u.oneCell'=true/\PV.At w ι X p u:=by
 cases x<;>try (simp only[Zd3]at h;cases h;done)
 rename_i o sz off len cap;simp only[Zd3]at h;cases ho:Zkl (S.objs o)with
 |none=>rw[ho]at h;cases h
 |some p'=>
  rw[ho]at h;simp only at h;split at h
  ·rename_i hc;obtain⟨rfl,rfl,rfl⟩:=hc;cases h;have hoc:S.objs o2= .cells [p]:=by
    unfold Zkl at ho;split at ho<;>first|(cases ho;assumption)|cases ho
   have hob:=hS.objs o2;rw[hoc]at hob;cases hx with
   |ref _ _ _ _ _ capr b hι hl hcc hm hss=>
    cases hob with
    |cells _ b' arr T hι' hb hsz hone hat=>
     rw[hι]at hι';cases hι';have h0:0<arr.size:=hsz;have hg:arr[0]? =some arr[0]:=uU h0;exact⟨b,capr,by simp,arr,T,arr[0],hb,hg,hone _ _ hg,hat 0 p _ rfl hg⟩
  ·cases h
theorem ZDO (hS:Hold B X w0 n S a w ι){t u:TypeId}{s x:Operand}{p:PV}{o2:Nat}(hd:∀t,dst=some t->t<n)(hs:ZaD s=true)(hx:ZaD x=true)(hp:Zd3 S.objs (S.ev x)=some (p,o2))
  (hc:(Zgb S.objs dst (tyi P t) (tyi P u) (tyi P (tyi P t).elem) (S.ev s) p o2).1):
  ZaQ P B X w0 n ⟨dst, .call ⟨.builtin .append,#[s,x],#[t,u]⟩,ty,pos,af,gd⟩ (S.app dst (Zgb S.objs dst (tyi P t) (tyi P u) (tyi P (tyi P t).elem) (S.ev s) p o2).2) a w:=by
 have hps:=hS.ev hs;obtain⟨bx,cx,hxv,arrx,Tx,ux,hbx,hux,hu1,hpu⟩:=Zxi hS hp (hS.ev hx);unfold Zgb at hc|-;split at hc
 ·rename_i t' o sz off len cap hsv;rw[hsv]at hps;cases hcs:ZhU (S.objs o)with
  |none=>rw[hcs]at hc;exact hc.elim
  |some cs=>
  rw[hcs]at hc;simp only at hc|-;obtain⟨hk1,hk2,hz,hs1,hby,hdead,rfl,rfl,hlen,hroom⟩:=hc;have ht'n:t'<n:=hd t' rfl;have ht:=ZdT hk1;have hu:=ZdT hk2;obtain⟨ie,z,hie,hiz,hzs,hisz,hiby,hz1,hne,hzz,_⟩:=Zjw hz;generalize he:(tyi P (tyi P t).elem)=ety at*;have hlive:S.objs o≠ .gone:=λ h=>by rw[h]at hcs;cases hcs
  have hto:t'≠o:=λ h=>by rw[<-h,hdead]at hcs;cases hcs
  have rdrop:∀(q:St) (r:List Nat) (v:PV) (wr:List (Nat×Ob)),q.app (some t') {val:=v,wr:=wr,rd:=r}=q.app (some t') {val:=v,wr:=wr}:=λ q r v wr=>rfl
  rw[rdrop];have hexec:∀(sv:Value),a.eval s=sv->∀v w',(Builtin.append_ #[t,u] ty #[sv,a.eval x]).run P w= .ok v w'->
    (execOp a.eval ⟨some t', .call ⟨.builtin .append,#[s,x],#[t,u]⟩,ty,pos,af,gd⟩).run P w= .ok (.value v) w':=by
   intro sv hsv v w' hr;simp only[execOp,resolve,invoke,builtin,Sem.run_bind,Sem.run_pure,Result.andThen_ok,List.map_toArray,uT,yH,hsv,hr]
  have hfx:∀w1:World,w1.heap=w.heap->(Builtin.firstCells 1 1 (a.eval x)).run P w1= .ok [ux].toArray w1:=λ w1 h1=>by
   rw[hxv];refine run_firstCells_some (P:=P) w1 1 1 ⟨bx,0,none⟩ 1 cx [ux] rfl (λ j v hj=>?_);cases j with
   |succ j=>simp at hj
   |zero=>
    cases hj;rw[ZdJ,qT,Zdg (w:=w1) (by rw[h1];exact hbx)];exact hux
  have hisz1:ie.size=1:=hisz.trans hs1;have hzs1:z.cells.size=1:=hzs.trans hs1;simp only[roomy]at hroom
  have fresh:∀(base:Option Addr) (capr:Nat) (olds:List Value),a.eval s= .slice base len capr->capr<len+1->(Builtin.firstCells ie.size len (.slice base len capr)).run P w.drew= .ok olds.toArray w.drew->olds.length=len->
    (∀u∈olds,u.oneCell'=true)->(∀(j:Nat) q v,cs[j]? =some q->olds[j]? =some v->PV.At w ι X q v)->
    ZaQ P B X w0 n ⟨some t', .call ⟨.builtin .append,#[s,x],#[t,u]⟩,ty,pos,af,gd⟩ (S.app (some t') {val:= .ref t' 1 0 (len+1) (len+1),wr:=[(t', .cells (cs.take len++[p])),(o, .gone)]}) a w:=by
   intro base capr olds hva hgr ho hol ho1 hoat;refine ZaQ.gone (P:=P) (o:=⟨some t', .call ⟨.builtin .append,#[s,x],#[t,u]⟩,ty,pos,af,gd⟩) hto ?_;have hr:=Zl9 (P:=P) (w:=w) (ty':=ty) ht hu hie hiz (base:=base) (len:=len) (cap:=capr) (m:=1) (x:=a.eval x) (olds:=olds) (Zan:=[ux]) ⟨_,cx,hxv⟩ ho (by rw[hisz1];exact hfx _ rfl) hgr hroom (by omega);have hge:=grownCap_ge w (len+1) capr (tyi P t).elem;have hsza:(olds.toArray++[ux].toArray++Builtin.zeroCells z.cells (grownCap w (len+1) capr (tyi P t).elem-(len+1))).size=grownCap w (len+1) capr (tyi P t).elem:=by
    simp only[Array.size_append,kJ,hol,size_zeroCells,hzs1,yB,uY];omega
   refine ZrG (P:=P) (o:=⟨some t', .call ⟨.builtin .append,#[s,x],#[t,u]⟩,ty,pos,af,gd⟩) hS rfl ht'n hdead (k:=len+1) (hexec _ hva _ _ hr) rfl rfl rfl (by simp) (λ b hb=>heap_alloc_old w.drew _ hb) (heap_alloc_new w.drew _)
    (by simp;omega) hge (grownCap_le_maxLen w _ _ _ (by simp only[maxLen];omega)) hsza (λ j v hj=>?_) (λ j q v hq hj=>?_)
   ·rw[gM,gM]at hj;split at hj
    ·split at hj
     ·exact ho1 v (uA (by simpa using hj))
     ·have:=uA (l:=[ux]) (by simpa using hj);rw[uS]at this;rw[this];exact hu1
    ·exact ZvF hz1 _ v hj
   ·have hjl:j<len+1:=by
     have:=(uB.1 hq).1;simp at this;omega
    rw[zM (by simp[hol];omega),gM]at hj;simp only[kJ,hol,kQ]at hj;rw[jB]at hq;simp only[yJ,jE hlen]at hq;by_cases hjc:j<len
    ·rw[if_pos hjc]at hq hj;rw[qH,if_pos hjc]at hq;exact hoat j q v hq hj
    ·rw[if_neg hjc]at hq hj;have:j-len=0:=by omega
     rw[this]at hq hj;cases hq;cases hj;exact hpu
  generalize hva:a.eval s=va at hps;cases hps with
  |ref0 _ _ _ base=>
   exact fresh base 0 [] hva (by omega) (by cases base<;>simp[Builtin.firstCells,loadCells,loadCellsFrom]) rfl (by simp) (by simp)
  |ref _ _ _ _ _ capr b hι hl hcc hm hss=>
   simp only[jK]at hva;rcases Zxj (hS.objs o) hcs with⟨h,_⟩|⟨b',c,T,hι',hb,hsz,hone,hat⟩
   ·rw[h]at hι;cases hι
   ·rw[hι]at hι';cases hι';simp only[qT,bsz,hb,jS]at hss;have hlc:len<=c.size:=by omega
    by_cases hfit:len+1<=capr
    ·have hfc:len+[ux].length<=c.size:=by simp;omega
     have hr:=Zul (P:=P) (w:=w) (ty':=ty) ht hu hie hb (x:=a.eval x) (Zan:=[ux]) (len:=len) (cap:=capr) (m:=1) ⟨_,cx,hxv⟩ (by rw[hisz1];exact hfx _ rfl) (by simp[hisz1]) (λ v hv=>by rw[uS.1 hv];exact hu1) hfit (by rw[hisz1,jS];exact hfc);rw[hisz1,jS]at hr;have hit:ι t'=none:=hS.dead hdead;have hX1:∀b',ownX (upd t' (some b) ι) X b'->ownX ι X b':=λ b' hb'=>(Zov hb').elim id (λ he=>he▸ .inr ⟨o,hι⟩)
     have mv:∀q v,PV.At w ι X q v->PV.At (w.setRow b (c.toList.take len++[ux]++c.toList.drop (len+[ux].length)).toArray) (upd t' (some b) ι) X q v:=λ q v hq=>
      (PV.At.store hS hι hb (ZdF _ _ _ hfc) hq).move (λ o' b' hb'=>⟨by rw[upd,if_neg (λ h=>by rw[h,hit]at hb';cases hb')];exact hb',rfl⟩) (λ b' hb'=> .inl (hX1 b' hb')) (λ _ _ _=>rfl)
     have hob':Ob.At (w.setRow b (c.toList.take len++[ux]++c.toList.drop (len+[ux].length)).toArray) (upd t' (some b) ι) X t' (.cells (cs.take len++[p])):=by
      refine .cells _ b _ T (if_pos rfl) (setRow_heap w b c _ T (0,0) hb) ?_ (λ j v hj=>?_) (λ j q v hq hj=>?_)
      ·rw[ZdF _ _ _ hfc,uG,yJ,jE hlen];exact hfc
      ·rw[ZfO _ _ _ hfc]at hj;split at hj
       ·exact hone j v hj
       ·split at hj
        ·rw[uS.1 (uA hj)];exact hu1
        ·exact hone j v hj
      ·refine mv q v ?_;have hjl:j<len+1:=by
        have:=(uB.1 hq).1;simp at this;omega
       rw[ZfO _ _ _ hfc]at hj;rw[jB]at hq;simp only[yJ,jE hlen]at hq;by_cases hjc:j<len
       ·rw[if_pos hjc]at hq hj;rw[qH,if_pos hjc]at hq;exact hat j q v hq hj
       ·rw[if_neg hjc]at hq hj;rw[if_pos (by simpa using hjl)]at hj;have:j-len=0:=by omega
        rw[this]at hq hj;cases hq;cases hj;exact hpu
     have h0:=hS.gone o;have hdead0:({env:=S.env,objs:=upd o .gone S.objs}:St).objs t'= .dead:=by simp only[upd,if_neg hto];exact hdead
     have h1:=h0.change (some b) t' (.cells (cs.take len++[p])) (upd t' (some b) ι) (w.setRow b (c.toList.take len++[ux]++c.toList.drop (len+[ux].length)).toArray) rfl rfl rfl (by simp)
      (λ o' hne=>if_neg hne) (λ b' hb'=>by rw[h0.dead hdead0]at hb';cases hb')
      (λ b' hb'=>by
       cases hb';refine⟨⟨o,hι⟩,λ o' hne hg ho'=>?_,by simp only[bsz,hb,setRow_heap w b c _ T (0,0) hb,ZdF _ _ _ hfc]⟩;have hne2:o'≠o:=λ he=>hg (by subst he;exact if_pos rfl)
       simp only[upd,if_neg hne2]at hg;exact hne2 (hS.inj o' o b hg hlive ho' hι))
      (λ b' _ hne=>setRow_other w b b' _ (λ he=>hne (by rw[he])))
      (λ b' hb'=>by
       rw[upd,if_pos rfl]at hb';cases hb';refine⟨.inr (.inr ⟨⟨o,hι⟩,λ o' hne hg ho'=>?_⟩),by rw[Zmb];exact(hS.free o b hι).2⟩;have hne2:o'≠o:=λ he=>hg (by subst he;exact if_pos rfl)
       simp only[upd,if_neg hne2]at hg;exact hne2 (hS.inj o' o b hg hlive ho' hι)) hob'
     refine⟨_,_,upd t' (some b) ι, .inl (hexec _ hva _ _ hr),?_⟩;have h2:=h1.put (dst:=some t') (x:= .ref t' 1 0 (len+1) (len+1)) (v:= .slice (some ⟨b,0*1,none⟩) (len+1) capr) hd
      (.ref t' 1 0 _ _ capr b (if_pos rfl) hfit hfit hm (by simp only[bsz,setRow_heap w b c _ T (0,0) hb,ZdF _ _ _ hfc,qT,jS,hss]))
     rw[jK]at h2;exact h2
    ·have holds:(Builtin.firstCells 1 len (.slice (some ⟨b,0,none⟩) len capr)).run P w.drew= .ok (c.toList.take len).toArray w.drew:=by
      refine run_firstCells_some (P:=P) w.drew 1 len ⟨b,0,none⟩ len capr _ (by simp;omega) (λ j v hj=>?_);rw[qH]at hj;split at hj
      ·rw[ZdJ,qT,Zdg (w:=w.drew) hb];simpa using hj
      ·cases hj
     refine fresh (some ⟨b,0,none⟩) capr (c.toList.take len) hva (by omega) (by rw[hisz1];exact holds) (by simp;omega) (λ v hv=>?_) (λ j q v hq hj=>?_)
     ·obtain⟨j,hj⟩:=yU (gT hv);exact hone j v (by simpa using hj)
     ·rw[qH]at hj;split at hj
      ·exact hat j q v hq (by simpa using hj)
      ·cases hj
 ·exact hc.elim
end hold
section hold
variable {P:Program}{B X:Nat->Prop}{w0:W0}{w:World}{n:Nat}{S:St}{a:Act}{ι:Nat->Option Nat}{dst:Option Nat}{ty:TypeId}{pos:String}{af:Array Edge}{gd:Option (Nat×Bool)}
theorem ZES {T:List (Nat×List Int)}{Y:Nat->Prop}(h:Zer T w Y){g i:Nat}(hi:i<(ZfD T g).length):D.At w Y (.pt ((ZfD T g).drop i)) (.pointer (some ⟨g,i,none⟩)):=by
 induction T with
 |nil=>simp[ZfD]at hi
 |cons q T ih=>
  obtain⟨g',l⟩:=q;simp only[ZfD]at hi|-;by_cases c:g'=g
  ·subst c;rw[if_pos rfl];obtain⟨h1,h2,h3⟩:=h (g',l) (by simp);have key:∀(j:Nat) c,((l.map λ v=>D.sc (.int .u8 v)).drop i)[j]? =some c->∃v,l[i+j]? =some v/\c= .sc (.int .u8 v):=by
    intro j c hj;rw[gA,uI]at hj;cases hq:l[i+j]? with
    |none=>rw[hq]at hj;cases hj
    |some v=>rw[hq]at hj;cases hj;exact⟨v,rfl,rfl⟩
   refine .pt _ g' i (λ j=> .int .u8 ((l[i+j]?).getD 0)) (λ j c hj=>?_) (λ j c hj=>?_)
   ·obtain⟨v,hv,rfl⟩:=key j c hj;simp only[hv,yN];exact⟨h3 _ v hv,rfl,h2⟩
   ·obtain⟨v,hv,rfl⟩:=key j c hj;simp only[hv,yN];exact .sc _ rfl
  ·rw[if_neg c]at hi|-;exact ih (λ q hq=>h q (uO _ hq)) hi
theorem ZD1 (ht:w0.tabs=tabs P)(hS:Hold B X w0 n S a w ι){T:TypeId}{g:Nat}{i:Operand}(hd:∀t,dst=some t->t<n)(hi:ZaD i=true)
  (hc:(Zhs (tabs P) g (tyi P T) (P.cellsOf (tyi P T).elem) (S.ev i)).1):ZaQ P B X w0 n ⟨dst, .indexAddr T (.global g) i,ty,pos,af,gd⟩ (S.app dst (Zhs (tabs P) g (tyi P T) (P.cellsOf (tyi P T).elem) (S.ev i)).2) a w:=by
 have hq:=hS.ev hi;generalize S.ev i=q at hc hq;unfold Zhs at hc|-;split at hc
 ·rename_i m;obtain⟨hk,he,h0,hlt,hl⟩:=hc;simp only;rw[ZaT];have hu:=Zr6 hk;have ei:=ZgZ hq;have hsz':=Zio (P:=P) (u:=(tyi P T).elem) (by omega) w;have hT:=ZES (w:=w) (ht▸hS.tabs) hl;refine hS.goes (v:= .pointer (some ⟨g,m.toNat,none⟩)) hd ?_ (.d _ _ hT);have hm:m<(tyi P T).len:=by omega
  have hva:a.eval (.global g)= .pointer (some ⟨g,0,none⟩):=rfl;simp[execOp,Instr.indexAt,hva,ei,asIntOf,run_underlying hu,hsz',h0,hm,ZdJ,Instr.sureAddr,he]
 ·exact hc.elim
theorem ZD2 (hS:Hold B X w0 n S a w ι){T:TypeId}{x:Operand}(hd:∀t,dst=some t->t<n)(hx:ZaD x=true)
  (hc:(Zht (tyi P T) T (S.ev x)).1):ZaQ P B X w0 n ⟨dst, .makeInterface T x,ty,pos,af,gd⟩ (S.app dst (Zht (tyi P T) T (S.ev x)).2) a w:=by
 have hp:=hS.ev hx;generalize S.ev x=p at hc hp;unfold Zht at hc|-;split at hc
 ·rename_i m;simp only;rw[ZaT];have e1:=Zbt hp;refine hS.goes (v:= .iface T (.int .i64 m)) hd ?_ (.d _ _ (.sc _ rfl));cases hu:P.underlying T with
  |none=>simp[tyi,hu]at hc
  |some d=>cases d<;>simp[tyi,hu]at hc<;>simp[execOp,Instr.makeInterface,e1,run_underlying hu]
 ·rename_i o sz i c;obtain⟨hk,h0⟩:=hc;simp only;rw[ZaT];generalize hva:a.eval x=va at hp;cases hp with
  |ptr _ _ _ _ b hι=>
   rw[h0]at hva;refine hS.goes (v:= .iface T (.pointer (some ⟨b,0,none⟩))) hd ?_ (.ifp T o b hι);cases hu:P.underlying T with
   |none=>simp[tyi,hu]at hk
   |some d=>cases d<;>simp[tyi,hu]at hk<;>simp[execOp,Instr.makeInterface,hva,run_underlying hu]
 ·exact hc.elim
theorem ZDP (hS:Hold B X w0 n S a w ι){T U:TypeId}{x:Operand}(hd:∀t,dst=some t->t<n)(hx:ZaD x=true)
  (hc:(Zhm (tyi P T) T (S.ev x)).1):ZaQ P B X w0 n ⟨dst, .typeAssert x U T false,ty,pos,af,gd⟩ (S.app dst (Zhm (tyi P T) T (S.ev x)).2) a w:=by
 have hp:=hS.ev hx;generalize S.ev x=p at hc hp;unfold Zhm at hc|-;split at hc
 ·rename_i t m;obtain⟨hk,rfl⟩:=hc;simp only;rw[ZaT];have e1:a.eval x= .iface t (.int .i64 m):=by
   generalize a.eval x=v at hp;cases hp with
   |d _ _ h=>cases h;rfl
  refine hS.goes (v:= .int .i64 m) hd ?_ (.d _ _ (.sc _ rfl));cases hu:P.underlying t with
  |none=>simp[tyi,hu]at hk
  |some d=>cases d<;>simp[tyi,hu]at hk<;>simp[execOp,Instr.typeAssert,e1,run_underlying hu]
 ·exact hc.elim
theorem ZDY (hS:Hold B X w0 n S a w ι){t u:TypeId}{s x:Operand}(hd:∀t,dst=some t->t<n)(hs:ZaD s=true)(hx:ZaD x=true)
  (hc:(Zjk S.objs (tyi P t) (tyi P (tyi P t).elem) (S.ev s) (S.ev x)).1):
  ZaQ P B X w0 n ⟨dst, .call ⟨.builtin .copy,#[s,x],#[t,u]⟩,ty,pos,af,gd⟩ (S.app dst (Zjk S.objs (tyi P t) (tyi P (tyi P t).elem) (S.ev s) (S.ev x)).2) a w:=by
 have hps:=hS.ev hs;have hpx:=hS.ev hx;generalize S.ev s=p at hc hps;generalize hva:a.eval s=va at hps;generalize hxe:S.ev x=q at hc hpx;unfold Zjk at hc|-;cases hxs:ZbS S.objs q with
 |none=>rw[hxs]at hc;exact hc.elim
 |some xs=>
  rw[hxs]at hc;cases p<;>try (exact hc.elim)
  rename_i o sz off len cap;dsimp only at hc|-;cases hob:S.objs o with
  |row sz' l=>
   rw[hob]at hc;simp only at hc|-;obtain⟨hk,hz,h1,h2,h3,h4,h5,hcl⟩:=hc;subst h2;subst h3;obtain⟨ie,z,hie,hiz,hzs,hisz,hiby,hz1,hne,hzz,_⟩:=Zjw hz;have hu:=ZdT hk;obtain⟨xb,xc,Zan,hxv,hnl,hf,hn1,hnat⟩:=ZoM (P:=P) hS hpx hxs hcl;have hoo:=hS.objs o;rw[hob]at hoo;have hrun:∀(base:Option Addr) (capr:Nat) (w':World),a.eval s= .slice base len capr->(match base with|some ad=>(storeCells ad Zan 0).run P w= .ok () w'|none=>w'=w)->
     (execOp a.eval ⟨dst, .call ⟨.builtin .copy,#[s,x],#[t,u]⟩,ty,pos,af,gd⟩).run P w= .ok (.value (.int .i64 len)) w':=by
    intro base capr w' hv hst;rw[hxv]at hf;have hsz:(sizeOf (tyi P t).elem).run P w= .ok sz w:=by
     simp[sizeOf,typeInfo,hie,hisz,h1]
    cases base with
    |none=>
     simp only at hst;subst hst;simp[execOp,resolve,invoke,builtin,Builtin.copy_,hv,hxv,run_underlying hu,Builtin.lenOf,hsz,h5,goInt];rw[h5]at hf;simp[hf]
    |some ad=>
     simp only at hst;simp[execOp,resolve,invoke,builtin,Builtin.copy_,hv,hxv,run_underlying hu,Builtin.lenOf,hsz,h5,goInt];rw[h5]at hf;simp[hf,hst]
   have app:∀(o':Nat) (ob:Ob) (rd:List Nat),S.app dst {val:= .int len,wr:=[(o',ob)],rd:=rd}=({env:=S.env,objs:=upd o' ob S.objs}:St).put dst (.int len):=by
    intro o' ob rd;cases dst<;>rfl
   rw[app];cases hps with
   |ref0 _ _ _ base=>
    have hl0:l=[]:=qI h4.symm;have hx0:xs=[]:=qI h5;subst hl0;subst hx0;have hn0:Zan=[]:=qI (by simpa using hnl);subst hn0;have e:upd o (.row sz []) S.objs=S.objs:=by
     funext k
     simp only[upd];split
     ·rename_i hk;rw[hk,hob]
     ·rfl
    rw[e];refine hS.goes hd (hrun base 0 w hva ?_) (.d _ _ (.sc _ rfl));cases base<;>rfl
   |ref _ _ _ _ _ capr b hι hl hcc hm hss=>
    cases hoo with
    |row0 _ hι0=>rw[hι0]at hι;cases hι
    |row _ _ b' c T hι' hb hsz hcl' hone h=>
     rw[hι]at hι';cases hι';have hnl':Zan.length=l.length*sz:=by rw[hnl,h5,h4]
     have hfit:0*sz+Zan.length<=c.size:=by omega
     have hst:=run_storeCells_at P b (0*sz) T Zan 0 c w hb (by omega) hn1;rw[gX]at hst;have h1':=hS.change (some b) o (.row sz xs) ι (w.setRow b (c.toList.take (0*sz)++Zan++c.toList.drop (0*sz+Zan.length)).toArray) rfl rfl rfl (by simp) (λ _ _=>rfl) (λ _ h=>h)
      (λ b' hb'=>by
       cases hb';exact⟨⟨o,hι⟩,λ o' hne hg ho'=>hne (hS.inj o' o b hg (by rw[hob];simp) ho' hι),by simp only[bsz,hb,setRow_heap w b c _ T (0,0) hb,ZdF c _ Zan hfit]⟩)
      (λ b' _ hne=>setRow_other w b b' _ (λ he=>hne (by rw[he])))
      (λ b' hb'=>⟨.inl ⟨hb',by rw[hob];simp⟩,by rw[Zmb];exact(hS.free o b' hb').2⟩) ?_
     ·exact⟨_,_,ι, .inl (hrun (some ⟨b,0*sz,none⟩) capr _ hva hst),h1'.put hd (.d _ _ (.sc _ rfl))⟩
     ·refine .row sz xs b _ T hι (setRow_heap w b c _ T (0,0) hb) ?_ hcl (λ j v hj=>?_) (λ i d j e v hi hj hv=>?_)
      ·rw[ZdF _ _ _ hfit,h5,h4];exact hsz
      ·rw[ZfO _ _ _ hfit]at hj;split at hj
       ·exact hone j v hj
       ·split at hj
        ·exact hn1 v (uA hj)
        ·exact hone j v hj
      ·have hil:=(uB.1 hi).1;have hjs:j<sz:=by rw[<-hcl d (uA hi)];exact(uB.1 hj).1
       have hlt:i*sz+j<Zan.length:=by
        have:(i+1)*sz<=xs.length*sz:=yO _ (by omega);rw[qJ]at this;omega
       rw[ZfO _ _ _ hfit,if_neg (by omega),if_pos (by omega)]at hv;refine D.At.store hS hι hb (ZdF _ _ _ hfit) (hnat i d j e v hi hj ?_);rw[<-hv];congr 1;omega
  |_=>rw[hob]at hc;exact hc.elim
end hold
section hold
variable {P:Program}{B X:Nat->Prop}{w0:W0}{w:World}{n:Nat}{S:St}{a:Act}{ι:Nat->Option Nat}{dst:Option Nat}{ty:TypeId}{pos:String}{af:Array Edge}{gd:Option (Nat×Bool)}
theorem ZDW (hS:Hold B X w0 n S a w ι){b:Builtin}{as:Array Operand}{tys:Array TypeId}(hd:∀t,dst=some t->t<n)(hx:∀x∈as.toList,ZaD x=true)
  (hc:(ZeI P S.objs dst b tys.toList (as.toList.map S.ev)).1):
  ZaQ P B X w0 n ⟨dst, .call ⟨.builtin b,as,tys⟩,ty,pos,af,gd⟩ (S.app dst (ZeI P S.objs dst b tys.toList (as.toList.map S.ev)).2) a w:=by
 obtain⟨as⟩:=as;obtain⟨tys⟩:=tys;simp only at hx hc|-;unfold ZeI at hc|-;split at hc
 ·
  rename_i t x he;obtain⟨y,rfl,rfl⟩:∃y,as=[y]/\S.ev y=x:=by
   match as,he with
   |[y],he=>exact⟨y,rfl,by simpa using he⟩
  have hp:=hS.ev (hx y (by simp));cases hl:ZdC (S.ev y)with
  |none=>
   rw[hl]at hc;simp only[Zhv]at hc|-;split at hc
   ·rename_i o ho;split at hc
    ·rename_i l hob;exact ZD4 hS hd (hx y (by simp)) ho hob hc
    ·exact hc.elim
   ·rename_i s ho;rw[ho]at hp;simp only;rw[ZaT];refine hS.goes (v:= .int .i64 s.size) hd ?_ (.d _ _ (.sc _ rfl));simp[execOp,resolve,invoke,builtin,ZjM hp,Builtin.len_,run_underlying (Zr7 hc),goInt]
   ·exact hc.elim
  |some m=>
   rw[hl]at hc;simp only;rw[ZaT];obtain⟨bb,cc,hv⟩:=ZzX hp hl;have hu:=ZdT hc;refine hS.goes (v:= .int .i64 m) hd ?_ (.d _ _ (.sc _ rfl));simp[execOp,resolve,invoke,builtin,hv,Builtin.len_,run_underlying hu,goInt]
 ·
  rename_i p q he;obtain⟨y,z,rfl,e1,e2⟩:∃y z,as=[y,z]/\S.ev y= .d (.sc (.int .i64 p))/\S.ev z= .d (.sc (.int .i64 q)):=by
   match as,he with
   |[y,z],he=>simp at he;exact⟨y,z,rfl,he.1,he.2⟩
   |[],he=>simp at he
   |[_],he=>simp at he
   |_::_::_::_,he=>simp at he
  have h1:=hS.ev (hx y (by simp));have h2:=hS.ev (hx z (by simp));rw[e1]at h1;rw[e2]at h2;simp only;rw[ZaT];refine hS.goes (v:= .int .i64 (if q<p then q else p)) hd ?_ (.d _ _ (.sc _ rfl));simp[execOp,resolve,invoke,builtin,Zbt h1,Zbt h2,Builtin.min_,Builtin.min2]
 ·
  rename_i p q he;obtain⟨y,z,rfl,e1,e2⟩:∃y z,as=[y,z]/\S.ev y= .d (.sc (.int .i64 p))/\S.ev z= .d (.sc (.int .i64 q)):=by
   match as,he with
   |[y,z],he=>simp at he;exact⟨y,z,rfl,he.1,he.2⟩
   |[],he=>simp at he
   |[_],he=>simp at he
   |_::_::_::_,he=>simp at he
  have h1:=hS.ev (hx y (by simp));have h2:=hS.ev (hx z (by simp));rw[e1]at h1;rw[e2]at h2;simp only;rw[ZaT];refine hS.goes (v:= .int .i64 (if p<q then q else p)) hd ?_ (.d _ _ (.sc _ rfl));simp[execOp,resolve,invoke,builtin,Zbt h1,Zbt h2,Builtin.max_,Builtin.max2]
 ·
  rename_i p q r he;obtain⟨y,z,x,rfl,e1,e2,e3⟩:∃y z x,as=[y,z,x]/\S.ev y= .d (.sc (.int .i64 p))/\S.ev z= .d (.sc (.int .i64 q))/\S.ev x= .d (.sc (.int .i64 r)):=by
   match as,he with
   |[y,z,x],he=>simp at he;exact⟨y,z,x,rfl,he.1,he.2.1,he.2.2⟩
   |[],he=>simp at he
   |[_],he=>simp at he
   |[_,_],he=>simp at he
   |_::_::_::_::_,he=>simp at he
  have h1:=hS.ev (hx y (by simp));have h2:=hS.ev (hx z (by simp));have h3:=hS.ev (hx x (by simp));rw[e1]at h1;rw[e2]at h2;rw[e3]at h3;simp only;rw[ZaT];refine hS.goes (v:= .int .i64 (if r<(if q<p then q else p)then r else(if q<p then q else p))) hd ?_ (.d _ _ (.sc _ rfl));simp[execOp,resolve,invoke,builtin,Zbt h1,Zbt h2,Zbt h3,Builtin.min_,Builtin.min2]
 ·
  rename_i p q r he;obtain⟨y,z,x,rfl,e1,e2,e3⟩:∃y z x,as=[y,z,x]/\S.ev y= .d (.sc (.int .i64 p))/\S.ev z= .d (.sc (.int .i64 q))/\S.ev x= .d (.sc (.int .i64 r)):=by
   match as,he with
   |[y,z,x],he=>simp at he;exact⟨y,z,x,rfl,he.1,he.2.1,he.2.2⟩
   |[],he=>simp at he
   |[_],he=>simp at he
   |[_,_],he=>simp at he
   |_::_::_::_::_,he=>simp at he
  have h1:=hS.ev (hx y (by simp));have h2:=hS.ev (hx z (by simp));have h3:=hS.ev (hx x (by simp));rw[e1]at h1;rw[e2]at h2;rw[e3]at h3;simp only;rw[ZaT];refine hS.goes (v:= .int .i64 (if(if p<q then q else p)<r then r else(if p<q then q else p))) hd ?_ (.d _ _ (.sc _ rfl));simp[execOp,resolve,invoke,builtin,Zbt h1,Zbt h2,Zbt h3,Builtin.max_,Builtin.max2]
 ·
  rename_i t u s x he;obtain⟨y,z,rfl,rfl,rfl⟩:∃y z,as=[y,z]/\S.ev y=s/\S.ev z=x:=by
   match as,he with
   |[y,z],he=>simp at he;exact⟨y,z,rfl,he.1,he.2⟩
  cases hcx:Zd3 S.objs (S.ev z)with
  |none=>
   rw[hcx]at hc;exact ZDN hS hd (hx y (by simp)) (hx z (by simp)) hc
  |some q=>
   rw[hcx]at hc;exact ZDO hS hd (hx y (by simp)) (hx z (by simp)) hcx hc
 ·
  rename_i t u s x he;obtain⟨y,z,rfl,rfl,rfl⟩:∃y z,as=[y,z]/\S.ev y=s/\S.ev z=x:=by
   match as,he with
   |[y,z],he=>simp at he;exact⟨y,z,rfl,he.1,he.2⟩
  exact ZDY hS hd (hx y (by simp)) (hx z (by simp)) hc
 ·exact hc.elim
def Oper.plain (n:Nat)(o:Oper):Bool:=
 o.op.operands.toList.all ZaD&&(match o.dst with|some t=>decide (t<n)|none=>true)&&(match o.op with| .store .. =>o.dst.isNone| .mapUpdate .. =>o.dst.isNone|_=>true)
theorem ZEf (htb:w0.tabs=tabs P)(hS:Hold B X w0 n S a w ι){own:Nat->Bool}(o:Oper)(hpl:Oper.plain n o=true)(hc:(sem P own S.ev S.objs o.dst o.op).1):
  ZaQ P B X w0 n o (S.app o.dst (sem P own S.ev S.objs o.dst o.op).2) a w:=by
 obtain⟨dst,op,ty,pos,af,gd⟩:=o;simp only[Oper.plain,uL,uX]at hpl;obtain⟨⟨hops,hdst⟩,hst⟩:=hpl;have hd:∀t,dst=some t->t<n:=by rintro t rfl;simpa using hdst
 simp only at hc hops hst|-;cases op with
 |move x=>exact ZEb hS hd (hops x (by simp[Op.operands]))
 |assign x=>exact ZDQ hS hd (hops x (by simp[Op.operands]))
 |pick c x y=>exact ZEd hS hd (hops c (by simp[Op.operands])) (hops x (by simp[Op.operands])) (hops y (by simp[Op.operands])) hc
 |alloc T=>exact ZDM hS hd hc
 |box T x=>exact ZDS hS hd (hops x (by simp[Op.operands])) hc
 |build T ps=>exact ZDT hS hd (λ p hp=>hops p.2 (by simp only[Op.operands,uP];exact⟨p,hp,rfl⟩)) hc
 |buildSlice T m ps=>
  have hq:∀p∈ps.toList,ZaD p.2=true:=λ p hp=>hops p.2 (by simp only[Op.operands,uP];exact⟨p,hp,rfl⟩)
  simp only[sem]at hc|-;split at hc
  ·rename_i h1;rw[if_pos h1];exact ZDU hS hd hq hc
  ·rename_i h1;rw[if_neg h1];exact ZDV hS hd hq hc
 |load T x=>exact ZD5 hS hd (hops x (by simp[Op.operands])) hc
 |store T x y=>exact ZEh hS (by simpa using hst) (hops x (by simp[Op.operands])) (hops y (by simp[Op.operands])) hc
 |fieldAddr T x f=>exact ZD0 hS hd (hops x (by simp[Op.operands])) hc
 |indexAddr T x i=>
  cases x with
  |global g=>exact ZD1 htb hS hd (hops i (by simp[Op.operands])) hc
  |_=>exact ZD3 hS hd (hops _ (by simp[Op.operands])) (hops i (by simp[Op.operands])) hc
 |makeInterface T x=>exact ZD2 hS hd (hops x (by simp[Op.operands])) hc
 |typeAssert x U T ok=>
  cases ok with
  |false=>exact ZDP hS hd (hops x (by simp[Op.operands])) hc
  |true=>exact hc.elim
 |binOp op T x y T'=>exact ZDR hS hd (hops x (by simp[Op.operands])) (hops y (by simp[Op.operands])) hc
 |unOp op T x=>exact ZEj hS hd (hops x (by simp[Op.operands])) hc
 |convert T U x=>exact ZDX hS hd (hops x (by simp[Op.operands])) hc
 |index T x i=>exact ZEi hS hd (hops x (by simp[Op.operands])) (hops i (by simp[Op.operands])) hc
 |slice T x lo hi mx=>exact ZEg hS hd (hops x (by simp[Op.operands])) (λ y hy=>hops y (by subst hy;simp[Op.operands])) (λ y hy=>hops y (by subst hy;simp[Op.operands])) (λ y hy=>hops y (by subst hy;simp[Op.operands])) hc
 |extract x i=>exact ZuF hS hd (hops x (by simp[Op.operands])) hc
 |nilCheck x=>exact ZEc hS hd (hops x (by simp[Op.operands])) hc
 |makeSlice T l c=>exact ZD9 hS hd (hops l (by simp[Op.operands])) (hops c (by simp[Op.operands])) hc
 |makeFunc fn fi ca=>exact ZD7 hS hd (λ x hx=>hops x (by simp only[Op.operands,Array.toList_append,yK];exact .inr hx)) hc
 |makeMap T r=>
  cases r with
  |none=>exact ZD8 hS hd hc
  |some _=>exact hc.elim
 |mapUpdate T x y z=>exact ZEa hS (by simpa using hst) (hops x (by simp[Op.operands])) (hops y (by simp[Op.operands])) (hops z (by simp[Op.operands])) hc
 |lookup T x y ok=>
  cases ok with
  |false=>exact ZD6 hS hd (hops x (by simp[Op.operands])) (hops y (by simp[Op.operands])) hc
  |true=>exact hc.elim
 |range T x=>exact ZEe hS hd (hops x (by simp[Op.operands])) hc
 |entry x=>exact ZDZ hS hd (hops x (by simp[Op.operands])) hc
 |call c=>
  obtain⟨cal,as,tys⟩:=c;cases cal with
  |builtin b=>exact ZDW hS hd (λ x hx=>hops x (by simp only[Op.operands,Call.operands];simpa using hx)) hc
  |_=>exact hc.elim
 |_=>exact hc.elim
end hold
end Go.PS
