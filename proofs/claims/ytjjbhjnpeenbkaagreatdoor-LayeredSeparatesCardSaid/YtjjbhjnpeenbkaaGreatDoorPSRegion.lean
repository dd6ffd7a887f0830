/- A region, in whatever order the model draws, does what its run in the text's order says. -/
import Derived.Test.YtjjbhjnpeenbkaaGreatDoorPSOpsS
set_option linter.unusedSimpArgs false
set_option linter.unusedVariables false
set_option maxHeartbeats 16000000
namespace Go.PS
open Go
section
variable {P:Program}{own:Nat->Bool}{objs objs':Nat->Ob}
def ZhJ (P:Program)(own:Nat->Bool)(o:Oper)(S:St)(e:Eff):Prop:=
 match o.op with
 | .call {callee:= .value f,args,.. }=>(∃r,Zjy P S.objs (S.ev f) (args.toList.map S.ev) r/\e={val:= .d r,rd:=(args.toList.map S.ev).flatMap (PV.refs S.objs 4)})\/
   CallCondM P S.objs (S.ev f) (args.toList.map S.ev) e
 | .call {callee:= .invoke r m,args,.. }=>∃g recv rd e',Inv P S.objs (S.ev r) m g recv rd/\CallCondM P S.objs (.d (.fn g [])) (recv::args.toList.map S.ev) e'/\e={e' with rd:=rd++e'.rd}
 |op=>(sem P own S.ev S.objs o.dst op).1/\e=(sem P own S.ev S.objs o.dst op).2
def Zds (P:Program)(own:Nat->Bool)(all:List Oper)(o:Oper)(S:St)(e:Eff):Prop:=
 match o.guard with
 |none=>ZhJ P own o S e
 |some (j,want)=>∃g,grd all S j=some g/\if g=some want then ZhJ P own o S e else e={val:= .und}
def ZkU (P:Program)(own:Nat->Bool)(all:List Oper):List Oper->St->St->List Zbp->Prop
 |[],S,S',fs=>S'=S/\fs=[]
 |o::rest,S,S',fs=>∃e fs',Zds P own all o S e/\ZkU P own all rest (S.app o.dst e) S' fs'/\fs=e.foot::fs'
theorem ZFK {o:Oper}{S:St}{fs:List Zbp}{k:St->List Zbp->Prop}(h:wpOp P own o S fs k):∃e,ZhJ P own o S e/\k (S.app o.dst e) (e.foot::fs):=by
 obtain⟨dst,op,ty,pos,af,gd⟩:=o;cases op with
 |call c=>
  obtain⟨cal,as,tys⟩:=c;cases cal with
  |value f=>
   rcases h with⟨r,hc,hk⟩|⟨e,hc,hk⟩
   ·refine⟨_, .inl ⟨r,hc,rfl⟩,?_⟩;rw[ZiC];exact hk
   ·exact⟨_, .inr hc,hk⟩
  |builtin b=>exact⟨_,⟨h.1,rfl⟩,h.2⟩
  |invoke r m=>
   obtain⟨g,recv,rd,e,hI,hc,hk⟩:=h;exact⟨{e with rd:=rd++e.rd},⟨g,recv,rd,e,hI,hc,rfl⟩,hk⟩
 |_=>exact⟨_,⟨h.1,rfl⟩,h.2⟩
theorem ZDl {all:List Oper}:∀(ops:List Oper) (S:St) (fs:List Zbp) (K:St->List Zbp->Prop),Zad P own all ops S fs K->∃S' fs',ZkU P own all ops S S' fs'/\K S' (fs'.reverse++fs):=by
 intro ops
 induction ops with
 |nil=>intro S fs K h;exact⟨S,[],⟨rfl,rfl⟩,h⟩
 |cons o rest ih=>
  intro S fs K h;have one:wpOp P own o S fs (λ S' fs'=>Zad P own all rest S' fs' K)->∃e S' fs',ZhJ P own o S e/\ZkU P own all rest (S.app o.dst e) S' fs'/\K S' (fs'.reverse++(e.foot::fs)):=by
   intro h;obtain⟨e,h1,h2⟩:=ZFK h;obtain⟨S',fs',h3,h4⟩:=ih _ _ _ h2;exact⟨e,S',fs',h1,h3,h4⟩
  simp only[Zad]at h;cases hg:o.guard with
  |none=>
   rw[hg]at h;obtain⟨e,S',fs',h1,h2,h3⟩:=one h;exact⟨S',e.foot::fs',⟨e,fs',by simp only[Zds,hg];exact h1,h2,rfl⟩,by simpa using h3⟩
  |some q=>
   obtain⟨j,want⟩:=q;rw[hg]at h;simp only at h;cases hb:grd all S j with
   |none=>rw[hb]at h;exact h.elim
   |some b=>
    rw[hb]at h;simp only at h;split at h
    ·rename_i hw;obtain⟨e,S',fs',h1,h2,h3⟩:=one h;exact⟨S',e.foot::fs',⟨e,fs',by simp only[Zds,hg];exact⟨b,hb,by rw[if_pos hw];exact h1⟩,h2,rfl⟩,by simpa using h3⟩
    ·rename_i hw;obtain⟨S',fs',h1,h2⟩:=ih _ _ _ h;exact⟨S',([],[])::fs',⟨{val:= .und},fs',by simp only[Zds,hg];exact⟨b,hb,by rw[if_neg hw];trivial⟩,by rw[ZaT];exact h1,rfl⟩,by simpa using h2⟩
theorem Zmn :∀(k:Nat) (p:PV),(∀o∈p.refs objs k,objs' o=objs o)->toD objs' k p=toD objs k p/\p.refs objs' k=p.refs objs k:=by
 intro k
 induction k with
 |zero=>intro p _;exact⟨rfl,rfl⟩
 |succ k ih=>
  intro p h;have list:∀(cs:List PV),(∀o∈cs.flatMap (PV.refs objs k),objs' o=objs o)->cs.mapM (toD objs' k)=cs.mapM (toD objs k)/\cs.flatMap (PV.refs objs' k)=cs.flatMap (PV.refs objs k):=by
   intro cs
   induction cs with
   |nil=>intro _;exact⟨rfl,rfl⟩
   |cons c cs ihc=>
    intro hc;simp only[gK,yK]at hc;obtain⟨h1,h2⟩:=ih c (λ o ho=>hc o (.inl ho));obtain⟨h3,h4⟩:=ihc (λ o ho=>hc o (.inr ho));simp only[jU,gK,h1,h2,h3,h4,Ct]
  cases p with
  |d x=>exact⟨rfl,rfl⟩
  |nilS=>exact⟨rfl,rfl⟩
  |z0=>exact⟨rfl,rfl⟩
  |unk=>exact⟨rfl,rfl⟩
  |und=>exact⟨rfl,rfl⟩
  |ab=>exact⟨rfl,rfl⟩
  |mp _=>exact⟨rfl,rfl⟩
  |ifp _ _=>exact⟨rfl,rfl⟩
  |ref o sz off len cap=>
   have hm:o∈(PV.ref o sz off len cap).refs objs (k+1):=by simp only[PV.refs];split<;>simp
   have ho:=h o hm;simp only[PV.refs,toD]at h|-;rw[ho];cases hob:objs o with
   |dead=>exact⟨rfl,rfl⟩
   |gone=>exact⟨rfl,rfl⟩
   |row _ _=>exact⟨rfl,rfl⟩
   |imap _=>exact⟨rfl,rfl⟩
   |iter _ _ _=>exact⟨rfl,rfl⟩
   |cells cs=>
    rw[hob]at h;simp only at h|-;obtain⟨h1,h2⟩:=list ((cs.drop off).take len) (λ o ho=>h o (uO _ ho));rw[h1,h2];exact⟨rfl,rfl⟩
  |ptr o sz i c=>
   have hm:o∈(PV.ptr o sz i c).refs objs (k+1):=by simp only[PV.refs];split<;>simp
   have ho:=h o hm;simp only[PV.refs,toD]at h|-;rw[ho];cases hob:objs o with
   |dead=>exact⟨rfl,rfl⟩
   |gone=>exact⟨rfl,rfl⟩
   |row _ _=>exact⟨rfl,rfl⟩
   |imap _=>exact⟨rfl,rfl⟩
   |iter _ _ _=>exact⟨rfl,rfl⟩
   |cells cs=>
    rw[hob]at h;simp only at h|-;obtain⟨h1,h2⟩:=list cs (λ o ho=>h o (uO _ ho));rw[h1,h2];exact⟨rfl,rfl⟩
  |ag cs=>obtain⟨h1,h2⟩:=list cs (by simpa[PV.refs]using h);simp only[toD,PV.refs,h1,h2,Ct]
  |tup cs=>obtain⟨h1,h2⟩:=list cs (by simpa[PV.refs]using h);simp only[toD,PV.refs,h1,h2,Ct]
  |fn f cs=>obtain⟨h1,h2⟩:=list cs (by simpa[PV.refs]using h);simp only[toD,PV.refs,h1,h2,Ct]
theorem Zpl (k:Nat):∀(cs:List PV),(∀o∈cs.flatMap (PV.refs objs k),objs' o=objs o)->cs.mapM (toD objs' k)=cs.mapM (toD objs k)/\cs.flatMap (PV.refs objs' k)=cs.flatMap (PV.refs objs k):=by
 intro cs
 induction cs with
 |nil=>intro _;exact⟨rfl,rfl⟩
 |cons c cs ihc=>
  intro hc;simp only[gK,yK]at hc;obtain⟨h1,h2⟩:=Zmn k c (λ o ho=>hc o (.inl ho));obtain⟨h3,h4⟩:=ihc (λ o ho=>hc o (.inr ho));simp only[jU,gK,h1,h2,h3,h4,Ct]
def ZcZ (e:Eff)(objs objs':Nat->Ob):Prop:=(∀o∈e.rd,objs' o=objs o)/\∀q∈e.wr,objs' q.1=objs q.1
theorem ZDx {ty:TyI}{p:PV}(ha:ZcZ (Zdc ty objs p).2 objs objs'):Zdc ty objs' p=Zdc ty objs p:=by
 cases p with
 |ptr o sz i c=>
  have:objs' o=objs o:=ha.1 o (by simp[Zdc]);simp only[Zdc,this]
 |d x=>cases x<;>rfl
 |_=>rfl
theorem ZDC {ty:TyI}{p:PV}{x:Option (List PV)}(ha:ZcZ (ZeO ty objs p x).2 objs objs'):ZeO ty objs' p x=ZeO ty objs p x:=by
 cases x with
 |none=>cases p<;>rfl
 |some vs=>
  cases p with
  |ptr o sz i c=>
   have:objs' o=objs o:=ha.2 (o,_) (by simp only[ZeO,uS];rfl);simp only[ZeO,this]
  |_=>rfl
theorem ZDs {dst:Option Nat}{st xt ety:TyI}{s x:PV}(hc:(ZdY objs dst st xt ety s x).1)(ha:ZcZ (ZdY objs dst st xt ety s x).2 objs objs'):
  ZdY objs' dst st xt ety s x=ZdY objs dst st xt ety s x:=by
 obtain⟨ys,t',hys,hdst,hdead,_,_,_,_,_,hcase⟩:=ZoX hc;have hrd:∀o∈ZcB x,objs' o=objs o:=λ o ho=>by
  rcases hcase with⟨_,_,_,_,_,_,_,_,_,_,heq⟩|⟨_,_,heq⟩<;>
  ·rw[heq]at ha;exact ha.1 o ho
 have hx:ZbS objs' x=ZbS objs x:=by
  cases x with
  |ref o sz off len cap=>simp only[ZbS,hrd o (by simp[ZcB])]
  |d x=>cases x<;>rfl
  |_=>rfl
 have ht:objs' t'=objs t':=by
  rcases hcase with⟨_,_,_,_,_,_,_,_,_,_,heq⟩|⟨_,_,heq⟩<;>
  ·rw[heq]at ha;exact ha.2 (t',_) (by simp only[yF];exact .inl rfl)
 subst hdst;rcases hcase with⟨o,sz,len,cap,l,rfl,hob,_,_,_,heq⟩|⟨hs,_,heq⟩
 ·have ho:objs' o=objs o:=by rw[heq]at ha;exact ha.2 (o, .gone) (by simp)
  unfold ZdY;rw[hx,hys];simp only[ho,ht]
 ·unfold ZdY;rw[hx,hys];rcases hs with rfl|rfl<;>simp only[ht]
theorem ZqF {x:PV}(h:∀o∈ZcB x,objs' o=objs o):Zd3 objs' x=Zd3 objs x:=by
 cases x with
 |ref o sz off len cap=>simp only[Zd3,h o (by simp[ZcB])]
 |_=>rfl
theorem ZEw {x p:PV}{o2:Nat}(h:Zd3 objs x=some (p,o2)):ZcB x=[o2]:=by
 cases x<;>try (simp only[Zd3]at h;cases h;done)
 rename_i o sz off len cap;simp only[Zd3]at h;cases ho:Zkl (objs o)with
 |none=>rw[ho]at h;cases h
 |some q=>
  rw[ho]at h;simp only at h;split at h
  ·cases h;rfl
  ·cases h
theorem ZDr {dst:Option Nat}{st xt ety:TyI}{s p:PV}{o2:Nat}(hc:(Zgb objs dst st xt ety s p o2).1)(ha:ZcZ (Zgb objs dst st xt ety s p o2).2 objs objs'):
  Zgb objs' dst st xt ety s p o2=Zgb objs dst st xt ety s p o2/\objs' o2=objs o2:=by
 unfold Zgb at hc ha|-;split at hc
 ·rename_i t o sz off len cap;cases hcs:ZhU (objs o)with
  |none=>rw[hcs]at hc;exact hc.elim
  |some cs=>
   simp only[hcs]at ha;have h1:objs' o=objs o:=ha.2 (o, .gone) (by simp);have h2:objs' t=objs t:=ha.2 (t,_) (by simp only[yF];exact .inl rfl);have h3:objs' o2=objs o2:=ha.1 o2 (by simp);simp only[h1,h2,h3,hcs,and_true]
 ·exact hc.elim
theorem ZDt {dst:Option Nat}{ty ety:TyI}{n:Nat}{ps:List (Nat×PV)}(ha:ZcZ (ZeH objs dst ty ety n ps).2 objs objs'):ZeH objs' dst ty ety n ps=ZeH objs dst ty ety n ps:=by
 unfold ZeH at ha|-;split
 ·simp only at ha;rename_i t i p;rw[ha.2 (t,_) (by simp only[uS];rfl)]
 ·rfl
theorem ZDz {ty:TyI}{dst:Option Nat}(ha:ZcZ (ZeL ty objs dst).2 objs objs'):ZeL ty objs' dst=ZeL ty objs dst:=by
 cases dst with
 |none=>rfl
 |some t=>
  have:objs' t=objs t:=ha.2 (t,_) (by simp only[ZeL,uS];rfl);simp only[ZeL,this]
theorem ZDA {ty:TyI}{m k v:PV}(hc:(ZeM ty objs m k v).1)(ha:ZcZ (ZeM ty objs m k v).2 objs objs'):ZeM ty objs' m k v=ZeM ty objs m k v:=by
 unfold ZeM at hc ha|-;split at hc
 ·rename_i o a c;split at hc
  ·rename_i l hl;simp only[hl]at ha|-;have:objs' o=objs o:=ha.2 (o,_) (by simp only[uS];rfl);simp only[this,hl]
  ·exact hc.elim
 ·exact hc.elim
theorem ZDy {ty:TyI}{m k:PV}(hc:(ZeK ty objs m k).1)(ha:ZcZ (ZeK ty objs m k).2 objs objs'):ZeK ty objs' m k=ZeK ty objs m k:=by
 unfold ZeK at hc ha|-;split at hc
 ·rename_i o a;split at hc
  ·rename_i l hl;simp only[hl]at ha|-;have:objs' o=objs o:=ha.1 o (by simp);simp only[this,hl]
  ·exact hc.elim
 ·exact hc.elim
theorem ZDB {ty:TyI}{dst:Option Nat}{m:PV}(hc:(ZeN ty objs dst m).1)(ha:ZcZ (ZeN ty objs dst m).2 objs objs'):ZeN ty objs' dst m=ZeN ty objs dst m:=by
 unfold ZeN at hc ha|-;split at hc
 ·rename_i t o;split at hc
  ·rename_i l hl;simp only[hl]at ha|-;have h1:objs' o=objs o:=ha.1 o (by simp);have h2:objs' t=objs t:=ha.2 (t,_) (by simp only[uS];rfl);simp only[h1,h2,hl]
  ·exact hc.elim
 ·exact hc.elim
theorem ZDv {x:PV}(hc:(ZeJ objs x).1)(ha:ZcZ (ZeJ objs x).2 objs objs'):ZeJ objs' x=ZeJ objs x:=by
 unfold ZeJ at hc ha|-;split at hc
 ·rename_i o sz;split at hc
  ·rename_i m k sn hi;split at hc
   ·rename_i l j hl hj;simp only[hi,hl,hj]at ha|-;have h1:objs' o=objs o:=ha.1 o (by simp);have h2:objs' m=objs m:=ha.1 m (by simp);simp only[h1,h2,hi,hl,hj]
   ·exact hc.elim
  ·exact hc.elim
 ·exact hc.elim
theorem ZDw {ty:TyI}{x:PV}(hc:(Zhv ty objs x).1)(ha:ZcZ (Zhv ty objs x).2 objs objs'):Zhv ty objs' x=Zhv ty objs x:=by
 unfold Zhv at hc ha|-;split at hc
 ·rename_i o;split at hc
  ·rename_i l hl;simp only[hl]at ha|-;have:objs' o=objs o:=ha.1 o (by simp);simp only[this,hl]
  ·exact hc.elim
 ·rfl
 ·exact hc.elim
theorem ZDu {dst:Option Nat}{b:Builtin}{tys:List TypeId}{xs:List PV}(hc:(ZeI P objs dst b tys xs).1)(ha:ZcZ (ZeI P objs dst b tys xs).2 objs objs'):
  ZeI P objs' dst b tys xs=ZeI P objs dst b tys xs:=by
 unfold ZeI at hc ha|-;split at hc<;>try first|rfl|exact hc.elim
 ·rename_i t x;simp only at ha|-;cases hl:ZdC x with
  |some n=>rfl
  |none=>rw[hl]at hc ha;exact ZDw hc ha
 ·rename_i t u s x;simp only at ha|-;cases hx:Zd3 objs x with
  |some q=>
   obtain⟨p,o2⟩:=q;rw[hx]at hc ha;obtain⟨h1,h2⟩:=ZDr hc ha;rw[ZqF (objs:=objs) (λ o ho=>by rw[ZEw hx]at ho;rw[uS.1 ho];exact h2),hx];exact h1
  |none=>
   rw[hx]at hc ha;have hrd:∀o∈ZcB x,objs' o=objs o:=λ o ho=>by
    obtain⟨_,_,_,_,_,_,_,_,_,_,hcase⟩:=ZoX hc;rcases hcase with⟨_,_,_,_,_,_,_,_,_,_,heq⟩|⟨_,_,heq⟩<;>
    ·rw[heq]at ha;exact ha.1 o ho
   rw[ZqF hrd,hx];exact ZDs hc ha
 ·rename_i t u s x;simp only at ha|-;unfold Zjk at hc ha|-;cases hxs:ZbS objs x with
  |none=>rw[hxs]at hc;exact hc.elim
  |some xs=>
   rw[hxs]at hc ha;cases s<;>try (exact hc.elim)
   rename_i o sz off len cap;dsimp only at hc ha|-;cases hob:objs o with
   |row sz' l=>
    rw[hob]at hc ha;have h1:objs' o=objs o:=ha.2 (o,_) (by simp only[uS];rfl);have h2:ZbS objs' x=some xs:=by
     rw[<-hxs];cases x with
     |ref o2 _ _ _ _=>simp only[ZbS,ha.1 o2 (by simp[ZcB])]
     |d x=>cases x<;>rfl
     |_=>rfl
    rw[h2];dsimp only;rw[h1,hob]
   |_=>rw[hob]at hc;exact hc.elim
theorem ZDD {ev ev':Operand->PV}{dst:Option Nat}{op:Op}(hev:∀x∈op.operands,ev' x=ev x)(hc:(sem P own ev objs dst op).1)(ha:ZcZ (sem P own ev objs dst op).2 objs objs'):
  sem P own ev' objs' dst op=sem P own ev objs dst op:=by
 cases op with
 |move x=>simp only[sem,hev x (by simp[Op.operands])]
 |assign x=>simp only[sem,hev x (by simp[Op.operands])]
 |pick c a b=>simp only[sem,hev c (by simp[Op.operands]),hev a (by simp[Op.operands]),hev b (by simp[Op.operands])]
 |alloc T=>
  simp only[sem,ZgH]at hc ha|-;cases dst with
  |none=>rfl
  |some t=>simp only at ha|-;rw[ha.2 (t,_) (by simp only[uS];rfl)]
 |box T x=>
  simp only[sem,ZgI,hev x (by simp[Op.operands])]at hc ha|-;cases dst with
  |none=>rfl
  |some t=>
   cases hcs:(ev x).cells? with
   |none=>rfl
   |some cs=>rw[hcs]at ha;simp only at ha|-;rw[ha.2 (t,_) (by simp only[uS];rfl)]
 |build T ps=>
  simp only[sem];have:(ps.toList.map λ p=>(p.1,ev' p.2))=ps.toList.map λ p=>(p.1,ev p.2):=yM λ p hp=>by
   rw[hev p.2 (by simp only[Op.operands,List.mem_toArray,uP];exact⟨p,hp,rfl⟩)]
  rw[this]
 |buildSlice T n ps=>
  have hps:(ps.toList.map λ p=>(p.1,ev' p.2))=ps.toList.map λ p=>(p.1,ev p.2):=yM λ p hp=>by
   rw[hev p.2 (by simp only[Op.operands,List.mem_toArray,uP];exact⟨p,hp,rfl⟩)]
  simp only[sem,hps]at hc ha|-;generalize Zti own dst=ow at hc ha|-;generalize ps.toList.map (λ p=>(p.1,ev p.2))=qs at hc ha|-;by_cases hr1:Zj0 qs=true
  ·simp only[if_pos hr1]at ha|-;exact ZDt ha
  simp only[if_neg hr1]at hc ha|-;unfold Zgc at hc ha|-;generalize hl:Zgr (tyi P (tyi P T).elem).size (List.replicate n (.ofCells (tyi P (tyi P T).elem).agg ((tyi P (tyi P T).elem).zero.map cellD))) (qs.map λ p=>(p.1,toD objs 4 p.2))=res at hc ha;have hrefs:(qs.map (·.2)).flatMap (PV.refs objs 4)=[]:=by
   cases res with
   |none=>exact hc.elim
   |some l=>
    cases ow with
    |true=>cases dst with
           |none=>exact hc.elim
           |some t=>exact hc.2.2.2.1
    |false=>exact hc.2.2.2
  have hq:∀p∈qs,toD objs' 4 p.2=toD objs 4 p.2/\p.2.refs objs' 4=p.2.refs objs 4:=λ p hp=>by
   refine Zmn 4 p.2 (λ o ho=>?_);rw[Bu]at hrefs;rw[hrefs p.2 (jR hp)]at ho;cases ho
  have h1:(qs.map λ p=>(p.1,toD objs' 4 p.2))=qs.map λ p=>(p.1,toD objs 4 p.2):=yM λ p hp=>by rw[(hq p hp).1]
  have h2:(qs.map (·.2)).flatMap (PV.refs objs' 4)=(qs.map (·.2)).flatMap (PV.refs objs 4):=(Zpl 4 _ (λ o ho=>by rw[hrefs]at ho;cases ho)).2;rw[h1,hl,h2];cases res with
  |none=>rfl
  |some l=>
   cases ow with
   |true=>cases dst with
          |none=>rfl
          |some t=>simp only[if_true]at ha|-;rw[ha.2 (t,_) (by simp only[uS];rfl)]
   |false=>rfl
 |load T x=>
  simp only[sem,hev x (by simp[Op.operands])]at hc ha|-;exact ZDx ha
 |store T x y=>
  simp only[sem,hev x (by simp[Op.operands]),hev y (by simp[Op.operands])]at hc ha|-;exact ZDC ha
 |fieldAddr T x f=>simp only[sem,hev x (by simp[Op.operands])]
 |indexAddr T x i=>
  have h1:=hev x (by simp[Op.operands]);have h2:=hev i (by simp[Op.operands]);cases x<;>simp only[sem,h1,h2]
 |makeInterface T x=>simp only[sem,hev x (by simp[Op.operands])]
 |typeAssert x U T ok=>
  cases ok with
  |false=>simp only[sem,hev x (by simp[Op.operands])]
  |true=>rfl
 |binOp op T x y T'=>simp only[sem,hev x (by simp[Op.operands]),hev y (by simp[Op.operands])]
 |unOp op T x=>simp only[sem,hev x (by simp[Op.operands])]
 |convert T U x=>simp only[sem,hev x (by simp[Op.operands])]
 |index T x i=>simp only[sem,hev x (by simp[Op.operands]),hev i (by simp[Op.operands])]
 |extract x i=>simp only[sem,hev x (by simp[Op.operands])]
 |nilCheck x=>simp only[sem,hev x (by simp[Op.operands])]
 |slice T x lo hi mx=>
  have e1:lo.map ev'=lo.map ev:=by cases lo with|none=>rfl|some y=>simp only[qB,hev y (by simp[Op.operands])]
  have e2:hi.map ev'=hi.map ev:=by cases hi with|none=>rfl|some y=>simp only[qB,hev y (by simp[Op.operands])]
  have e3:mx.map ev'=mx.map ev:=by cases mx with|none=>rfl|some y=>simp only[qB,hev y (by simp[Op.operands])]
  simp only[sem,hev x (by simp[Op.operands]),e1,e2,e3]
 |makeSlice T l c=>
  simp only[sem,hev l (by simp[Op.operands]),hev c (by simp[Op.operands])]at hc ha|-;unfold ZgJ at hc ha|-;split at hc
  ·rename_i t n m h1 h2;rw[h1,h2]at ha;simp only at ha;rw[ha.2 (t,_) (by simp only[uS];rfl)]
  ·exact hc.elim
 |makeFunc fn fi ca=>
  have h1:fi.toList.map ev'=fi.toList.map ev:=yM λ x hx=>hev x (by simp only[Op.operands,Array.mem_append];exact .inl (by simpa using hx))
  have h2:ca.toList.map ev'=ca.toList.map ev:=yM λ x hx=>hev x (by simp only[Op.operands,Array.mem_append];exact .inr (by simpa using hx))
  simp only[sem,h1,h2]
 |makeMap T r=>
  cases r with
  |none=>exact ZDz ha
  |some _=>rfl
 |mapUpdate T x y z=>
  simp only[sem,hev x (by simp[Op.operands]),hev y (by simp[Op.operands]),hev z (by simp[Op.operands])]at hc ha|-;exact ZDA hc ha
 |lookup T x y ok=>
  cases ok with
  |true=>rfl
  |false=>
   simp only[sem,hev x (by simp[Op.operands]),hev y (by simp[Op.operands])]at hc ha|-;exact ZDy hc ha
 |range T x=>
  simp only[sem,hev x (by simp[Op.operands])]at hc ha|-;exact ZDB hc ha
 |entry x=>
  simp only[sem,hev x (by simp[Op.operands])]at hc ha|-;exact ZDv hc ha
 |call c=>
  obtain⟨cal,as,tys⟩:=c;cases cal with
  |builtin b=>
   have hm:as.toList.map ev'=as.toList.map ev:=yM λ x hx=>hev x (by simp only[Op.operands,Call.operands];simpa using hx)
   simp only[sem,hm]at hc ha|-;exact ZDu hc ha
  |_=>rfl
 |_=>rfl
end
end Go.PS
