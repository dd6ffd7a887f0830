/- Symbolic and real states: the relation, and what keeps it. -/
import Derived.Test.YtjjbhjnpeenbkaaGreatDoorPSAct
set_option linter.unusedSimpArgs false
set_option linter.unusedVariables false
set_option maxHeartbeats 16000000
namespace Go.PS
open Go
theorem ZjG {w:World}{b o:Nat}{v:Value}(h:w.cell? ⟨b,o,none⟩=some v):b<w.heap.size:=
 World.block_lt_of_cell? (w:=w) (a:=⟨b,o,none⟩) h
theorem D.At.mono {w w':World}{X X':Nat->Prop}{x:D}{v:Value}(h:D.At w X x v)
  (hX:∀b,X' b->X b\/w.heap.size<=b)(hw:∀b,b<w.heap.size->¬X b->w'.heap[b]? =w.heap[b]?):D.At w' X' x v:=by
 induction h with
 |sc v h=>exact .sc v h
 |ag cs arr hsz hone _ ih=>exact .ag cs arr hsz hone ih
 |slnil base cap=>exact .slnil base cap
 |sl l b off cap sz hl hc hsz vals hv _ ih=>
  refine .sl l b off cap sz hl hc hsz vals (λ i d j c hi hj=>?_) ih;obtain⟨h1,h2,h3⟩:=hv i d j c hi hj;have hlt:=ZjG h1;refine⟨?_,h2,λ hx=>?_⟩
  ·rw[World.cell?_of_block (w:=w) (a:=⟨b,off+i*sz+j,none⟩) (hw b hlt h3)];exact h1
  ·rcases hX b hx with h|h
   ·exact h3 h
   ·omega
 |tup cs arr hsz _ ih=>exact .tup cs arr hsz ih
 |pt cs b off vals hv _ ih=>
  refine .pt cs b off vals (λ j c hj=>?_) ih;obtain⟨h1,h2,h3⟩:=hv j c hj;have hlt:=ZjG h1;refine⟨?_,h2,λ hx=>?_⟩
  ·rw[World.cell?_of_block (w:=w) (a:=⟨b,off+j,none⟩) (hw b hlt h3)];exact h1
  ·rcases hX b hx with h|h
   ·exact h3 h
   ·omega
 |fn f cs arr hsz _ ih=>exact .fn f cs arr hsz ih
theorem D.At.sub {w:World}{X X':Nat->Prop}{x:D}{v:Value}(h:D.At w X x v)(hX:∀b,X' b->X b):D.At w X' x v:=
 h.mono (λ b hb=> .inl (hX b hb)) (λ _ _ _=>rfl)
theorem D.At.cells {w:World}{X:Nat->Prop}{x:D}{v:Value}(h:D.At w X x v)(ht:∀l,x≠ .tup l):
  v.cells.size=x.cells.length/\(∀(j:Nat) (u:Value),v.cells[j]? =some u->u.oneCell'=true)/\∀(j:Nat) d u,x.cells[j]? =some d->v.cells[j]? =some u->D.At w X d u:=by
 cases h with
 |ag cs arr hsz hone h=>exact⟨hsz,hone,h⟩
 |tup=>exact absurd rfl (ht _)
 |sc v h=>
  refine⟨?_,?_,?_⟩
  ·cases v<;>first|rfl|simp[Value.oneCell']at h
  all_goals
   have e:v.cells=#[v]:=by cases v<;>first|rfl|simp[Value.oneCell']at h
   rw[e]
  ·intro j u hj;rcases j with _|j<;>simp at hj
   subst hj;exact h
  ·intro j d u hd hj;rcases j with _|j<;>simp[D.cells]at hd hj
   subst hd;subst hj;exact .sc v h
 |slnil base cap=>
  refine⟨rfl,?_,?_⟩<;>intro j
  ·intro u hj;rcases j with _|j<;>simp[Value.cells]at hj
   subst hj;rfl
  ·intro d u hd hj;rcases j with _|j<;>simp[D.cells,Value.cells]at hd hj
   subst hd;subst hj;exact .slnil base cap
 |sl l b off cap sz hl hc hsz vals hv h=>
  refine⟨rfl,?_,?_⟩<;>intro j
  ·intro u hj;rcases j with _|j<;>simp[Value.cells]at hj
   subst hj;rfl
  ·intro d u hd hj;rcases j with _|j<;>simp[D.cells,Value.cells]at hd hj
   subst hd;subst hj;exact .sl l b off cap sz hl hc hsz vals hv h
 |pt cs b off vals hv h=>
  refine⟨rfl,?_,?_⟩<;>intro j
  ·intro u hj;rcases j with _|j<;>simp[Value.cells]at hj
   subst hj;rfl
  ·intro d u hd hj;rcases j with _|j<;>simp[D.cells,Value.cells]at hd hj
   subst hd;subst hj;exact .pt cs b off vals hv h
 |fn f cs arr hsz h=>
  refine⟨rfl,?_,?_⟩<;>intro j
  ·intro u hj;rcases j with _|j<;>simp[Value.cells]at hj
   subst hj;rfl
  ·intro d u hd hj;rcases j with _|j<;>simp[D.cells,Value.cells]at hd hj
   subst hd;subst hj;exact .fn f cs arr hsz h
theorem PV.At.move {w w':World}{ι ι':Nat->Option Nat}{X:Nat->Prop}{p:PV}{v:Value}(h:PV.At w ι X p v)
  (h1:∀o b,ι o=some b->ι' o=some b/\bsz w' b=bsz w b)
  (h2:∀b,ownX ι' X b->ownX ι X b\/w.heap.size<=b)
  (h3:∀b,b<w.heap.size->¬ownX ι X b->w'.heap[b]? =w.heap[b]?):PV.At w' ι' X p v:=by
 induction h with
 |d x v h=>exact .d x v (h.mono h2 h3)
 |ref o sz off len cap capr b hι hl hc hm hs=>exact .ref o sz off len cap capr b (h1 o b hι).1 hl hc hm (hs.trans (h1 o b hι).2.symm)
 |ref0 o sz off base=>exact .ref0 o sz off base
 |ptr o sz i c b hι=>exact .ptr o sz i c b (h1 o b hι).1
 |nilS=>exact .nilS
 |z0 base=>exact .z0 base
 |ag cs arr hsz hone _ ih=>exact .ag cs arr hsz hone ih
 |tup cs arr hsz _ ih=>exact .tup cs arr hsz ih
 |fn f cs arr hsz _ ih=>exact .fn f cs arr hsz ih
 |unk v=>exact .unk v
 |und=>exact .und
 |ab b=>exact .ab b
 |mp o b hι=>exact .mp o b (h1 o b hι).1
 |ifp T o b hι=>exact .ifp T o b (h1 o b hι).1
theorem Ob.At.move {w w':World}{ι ι':Nat->Option Nat}{X:Nat->Prop}{o:Nat}{ob:Ob}(h:Ob.At w ι X o ob)
  (h0:ι' o=ι o)(hb:ob≠ .gone->∀b,ι o=some b->w'.heap[b]? =w.heap[b]?)
  (h1:∀o b,ι o=some b->ι' o=some b/\bsz w' b=bsz w b)
  (h2:∀b,ownX ι' X b->ownX ι X b\/w.heap.size<=b)
  (h3:∀b,b<w.heap.size->¬ownX ι X b->w'.heap[b]? =w.heap[b]?):Ob.At w' ι' X o ob:=by
 cases h with
 |dead h=>exact .dead (h0.trans h)
 |gone=>exact .gone
 |cells cs b c T hι hbb hsz hone h=>
  exact .cells cs b c T (h0.trans hι) ((hb (by simp) b hι).trans hbb) hsz hone λ j p v hj hv=>(h j p v hj hv).move h1 h2 h3
 |row0 sz h=>exact .row0 sz (h0.trans h)
 |row sz l b c T hι hbb hsz hcl hone h=>
  exact Ob.At.row (o:=o) (X:=X) sz l b c T (h0.trans hι) ((hb (by simp) b hι).trans hbb) hsz hcl hone λ i d j e v hi hj hv=>(h i d j e v hi hj hv).mono h2 h3
 |imap l b es clock hι hbb he=>exact .imap l b es clock (h0.trans hι) ((hb (by simp) b hι).trans hbb) he
 |iter m k sn b bm hι hm hbb=>exact .iter m k sn b bm (h0.trans hι) (h1 m bm hm).1 ((hb (by simp) b hι).trans hbb)
structure W0 extends World where
 ι0:Nat->Option Nat
 tabs:List (Nat×List Int)
def W0.of (w0:W0)(P:Program):W0:={w0 with tabs:=Go.PS.tabs P}
structure Frame0 (B:Nat->Prop)(w0:W0)(w:World):Prop where
 os:w.os=w0.os
 tape:w.tape=w0.tape
 output:w.output=w0.output
 size:w0.heap.size<=w.heap.size
 keep:∀b,B b->w.heap[b]? =w0.heap[b]?
structure Hold (B X:Nat->Prop)(w0:W0)(n:Nat)(S:St)(a:Act)(w:World)(ι:Nat->Option Nat):Prop where
 size:a.tmps.size=n
 defers:a.defers=[]
 frame:Frame0 B w0 w
 hB:∀b,B b->b<w0.heap.size
 hXB:(∀b,X b->B b)/\∀q,q∈w0.tabs->B q.1/\¬X q.1/\∀(j:Nat) v,q.2[j]? =some v->w0.toWorld.cell? ⟨q.1,j,none⟩=some (.int .u8 v)
 inj:∀o o' b,S.objs o≠ .gone->S.objs o'≠ .gone->ι o=some b->ι o'=some b->o=o'
 free:∀o b,ι o=some b->¬B b/\b<w.heap.size
 env:∀t,PV.At w ι X (S.env t) (a.tmps.getD t undef)
 objs:∀o,Ob.At w ι X o (S.objs o)
 stay:∀o b,w0.ι0 o=some b->(1000<=o/\o<2000)/\ι o=some b/\bsz w b=bsz w0.toWorld b
theorem Hold.hX {B X:Nat->Prop}{w0:W0}{n:Nat}{S:St}{a:Act}{w:World}{ι:Nat->Option Nat}(h:Hold B X w0 n S a w ι)(b:Nat)(hb:X b):b<w0.heap.size:=h.hB b (h.hXB.1 b hb)
theorem Hold.tabs {B X:Nat->Prop}{w0:W0}{n:Nat}{S:St}{a:Act}{w:World}{ι:Nat->Option Nat}(h:Hold B X w0 n S a w ι):Zer w0.tabs w (ownX ι X):=by
 intro q hq;obtain⟨h1,h2,h3⟩:=h.hXB.2 q hq;refine⟨gG (h.hB _ h1) h.frame.size,?_,λ j v hj=>?_⟩
 ·rintro(hx|⟨o,ho⟩)
  ·exact h2 hx
  ·exact(h.free o _ ho).1 h1
 ·rw[World.cell?_of_block (w:=w0.toWorld) (a:=⟨q.1,j,none⟩) (h.frame.keep _ h1)];exact h3 j v hj
theorem Zer.sub {T:List (Nat×List Int)}{w:World}{X X':Nat->Prop}(h:Zer T w X)(hX:∀b,X' b->X b):Zer T w X':=
 λ q hq=>⟨(h q hq).1,λ hx=>(h q hq).2.1 (hX _ hx),(h q hq).2.2⟩
theorem Hold.put {B X:Nat->Prop}{w0:W0}{n:Nat}{S:St}{a:Act}{w:World}{ι:Nat->Option Nat}(h:Hold B X w0 n S a w ι){dst:Option Nat}{x:PV}{v:Value}
  (hd:∀t,dst=some t->t<n)(hv:PV.At w ι X x v):Hold B X w0 n (S.put dst x) (a.put dst v) w ι:=by
 cases dst with
 |none=>exact h
 |some t=>
  refine⟨?_,h.defers,h.frame,h.hB,h.hXB,h.inj,h.free,λ u=>?_,h.objs,h.stay⟩
  ·simpa[Act.put]using h.size
  ·have ht:=hd t rfl;have hs:=h.size;by_cases hu:u=t
   ·subst hu;simp only[St.put,upd,if_true,Act.put,qO];rw[Av (by omega)];exact hv
   ·have:=h.env u;simp only[St.put,upd,if_neg hu,Act.put,qO]at this|-;rw[Ab (by omega)];exact this
theorem ZdJ (b off j:Nat):(⟨b,off,none⟩:Addr).add j=⟨b,off+j,none⟩:=by unfold Addr.add;split<;>simp_all
section types
variable {P:Program}{t:TypeId}
theorem Zzk (h:(tyi P t).ok=true):∃i,P.info? t=some i:=by
 simp only[tyi,Program.underlying]at h;cases hi:P.info? t with
 |none=>rw[hi]at h;simp at h
 |some i=>exact⟨i,rfl⟩
theorem ZFg (h:(tyi P t).ok=true):∃d,P.underlying t=some d:=Option.isSome_iff_exists.1 h
theorem Zur (h:(tyi P t).ok=true)(w:World):(sizeOf t).run P w= .ok (P.cellsOf t) w:=by
 obtain⟨i,hi⟩:=Zzk h;simp[sizeOf,typeInfo,hi,Program.cellsOf]
theorem ZDf (h:(tyi P t).ok=true)(w:World):(isAgg t).run P w= .ok (tyi P t).agg w:=by
 obtain⟨d,hd⟩:=ZFg h;simp only[isAgg,Sem.run_bind,run_underlying hd,Result.andThen_ok,tyi,hd];cases d<;>rfl
theorem ZpC (h:(tyi P t).zok=true):∃i z,P.info? t=some i/\i.zero=some z/\z.cells.size=P.cellsOf t/\(∀v∈z.cells.toList,v.oneCell'=true)/\P.cellsOf t≠0/\(tyi P t).zero=z.cells.toList:=by
 simp only[tyi]at h|-;cases hi:P.info? t with
 |none=>rw[hi]at h;simp at h
 |some i=>
  rw[hi]at h;simp only at h|-;cases hz:i.zero with
  |none=>rw[hz]at h;simp at h
  |some z=>
   rw[hz]at h;rw[uL]at h;have h:=h.1;simp only[uL,zL,Cu,ne_eq]at h;refine⟨i,z,rfl,hz,h.1.1,λ v hv=>?_,h.2,rfl⟩;exact(jM.1 h.1.2) v (by simpa using hv)
theorem ZvH (h:(tyi P t).zok=true):(tyi P t).agg=false->(tyi P t).size=1:=by
 simp only[tyi]at h|-;cases hi:P.info? t with
 |none=>rw[hi]at h;simp at h
 |some i=>
  rw[hi]at h;simp only at h|-;cases hz:i.zero with
  |none=>rw[hz]at h;simp at h
  |some z=>
   rw[hz]at h;rw[uL,qZ,zL]at h;intro ha;rcases h.2 with h2|h2
   ·exact h2
   ·rw[ha]at h2;cases h2
theorem ZzA (h:(tyi P t).kind=3):∃fs,P.underlying t=some (.struct fs):=by
 simp only[tyi]at h;cases hu:P.underlying t with
 |none=>rw[hu]at h;simp at h
 |some d=>rw[hu]at h;cases d<;>first|(simp at h;done)|(dsimp only at h;split at h<;>cases h;done)|exact⟨_,rfl⟩
theorem ZdT (h:(tyi P t).kind=1):P.underlying t=some (.slice (tyi P t).elem):=by
 simp only[tyi]at h|-;cases hu:P.underlying t with
 |none=>rw[hu]at h;simp at h
 |some d=>rw[hu]at h;cases d<;>first|(simp at h;done)|(dsimp only at h;split at h<;>cases h;done)|rfl
theorem Zr6 (h:(tyi P t).kind=2):P.underlying t=some (.array (tyi P t).len (tyi P t).elem):=by
 simp only[tyi]at h|-;cases hu:P.underlying t with
 |none=>rw[hu]at h;simp at h
 |some d=>rw[hu]at h;cases d<;>first|(simp at h;done)|(dsimp only at h;split at h<;>cases h;done)|rfl
theorem ZzB (h:(tyi P t).kind=6):P.underlying t=some .bool:=by
 simp only[tyi]at h|-;cases hu:P.underlying t with
 |none=>rw[hu]at h;simp at h
 |some d=>rw[hu]at h;cases d<;>first|(simp at h;done)|(dsimp only at h;split at h<;>cases h;done)|rfl
theorem ZlC (h:(tyi P t).kind=7):∃k e i,P.underlying t=some (.map k e)/\P.underlying k=some (.int .i64)/\P.info? e=some i/\i.zero=some (.int .i64 0):=by
 simp only[tyi]at h;cases hu:P.underlying t with
 |none=>rw[hu]at h;simp at h
 |some d=>
  rw[hu]at h;cases d<;>try (simp at h;done)
  rename_i k e;dsimp only at h;split at h
  ·rename_i hm;simp only[ZsG,uL]at hm;obtain⟨h1,h2⟩:=hm;split at h1
   ·rename_i hk;split at h2
    ·rename_i i hi;split at h2
     ·rename_i hz;exact⟨k,e,i,rfl,hk,hi,hz⟩
     ·cases h2
    ·cases h2
   ·cases h1
  ·cases h
theorem Zio {u:TypeId}(h:P.cellsOf u≠0)(w:World):(sizeOf u).run P w= .ok (P.cellsOf u) w:=by
 cases hi:P.info? u with
 |none=>simp[Program.cellsOf,hi]at h
 |some i=>simp[sizeOf,typeInfo,hi,Program.cellsOf]
end types
theorem ZoV {P:Program}{w:World}{t:TypeId}{b off:Nat}(ok:(tyi P t).ok=true)(f:Nat->Value)
  (hf:∀j,j<(if(tyi P t).agg then P.cellsOf t else 1)->w.cell? ⟨b,off+j,none⟩=some (f j)):
  (loadVar t ⟨b,off,none⟩).run P w= .ok (if(tyi P t).agg then .agg ((List.range (P.cellsOf t)).map f).toArray else f 0) w:=by
 simp only[loadVar,Sem.run_bind,ZDf ok,Result.andThen_ok];cases ha:(tyi P t).agg with
 |true=>
  simp only[ha,if_true]at hf|-;have hl:=run_loadCells_list (P:=P) w ⟨b,off,none⟩ ((List.range (P.cellsOf t)).map f) (λ j v hj=>by
   rw[uI]at hj;rcases uE j (P.cellsOf t)with hlt|hge
   ·rw[yR hlt]at hj;cases hj;rw[ZdJ];exact hf j hlt
   ·rw[uN (by simpa using hge)]at hj;cases hj)
  simp only[uC,zU]at hl;simp only[Sem.run_bind,Zur ok,Result.andThen_ok,hl,Sem.run_pure]
 |false=>
  simp only[ha,qD,jA]at hf|-;have:=hf 0 (by omega);simp only[gX]at this;simp[this]
section hold
variable {P:Program}{B X:Nat->Prop}{w0:W0}{w:World}{n:Nat}{S:St}{a:Act}{ι:Nat->Option Nat}
def ZaQ (P:Program)(B X:Nat->Prop)(w0:W0)(n:Nat)(o:Oper)(S':St)(a:Act)(w:World):Prop:=
 ∃v w' ι',((execOp a.eval o).run P w= .ok (.value v) w'\/((execOp a.eval o).run P w= .ok .skip w'/\v=undef))/\Hold B X w0 n S' (a.put o.dst v) w' ι'
theorem ZaQ.wp {o:Oper}{S':St}{next:Act->World->Prop}{Q:Exit->Act->World->Prop}(h:ZaQ P B X w0 n o S' a w)
  (hk:∀a' w' ι',Hold B X w0 n S' a' w' ι'->next a' w'):o.wp P a w next Q:=by
 obtain⟨v,w',ι',h1,h2⟩:=h;unfold Oper.wp;rcases h1 with h1|⟨h1,rfl⟩
 ·rw[h1,Oper.upon_value];exact hk _ _ _ h2
 ·rw[h1,Oper.upon_skip];exact hk _ _ _ h2
theorem Hold.goes (h:Hold B X w0 n S a w ι){o:Oper}{x:PV}{v:Value}(hd:∀t,o.dst=some t->t<n)
  (hr:(execOp a.eval o).run P w= .ok (.value v) w)(hv:PV.At w ι X x v):ZaQ P B X w0 n o (S.put o.dst x) a w:=
 ⟨v,w,ι, .inl hr,h.put hd hv⟩
def ZaD :Operand->Bool
 | .const (.agg cs)=>cs.all (·.oneCell')
 | .const v=>v.oneCell'
 |_=>true
theorem Zlg {v:Value}(h:v.oneCell'=true):PV.At w ι X (ZfR v) v:=by
 unfold ZfR;split
 ·exact .nilS
 ·exact .d _ _ (.sc v h)
theorem Hold.ev (h:Hold B X w0 n S a w ι){x:Operand}(hx:ZaD x=true):PV.At w ι X (S.ev x) (a.eval x):=by
 cases x with
 |tmp t=>exact h.env t
 |global g=>exact .unk _
 |func f=>exact .d _ _ (.fn f [] #[] rfl (λ j d v hj=>by simp at hj))
 |const v=>
  simp only[St.ev,Act.eval];cases v with
  |agg cs=>
   simp only[ZaD]at hx;refine .ag _ cs (by simp) (λ j v hj=>?_) (λ j d v hd hj=>?_)
   ·exact(jM.1 hx) v (gY hj)
   ·rw[uI,qS,hj]at hd;cases hd;exact Zlg ((jM.1 hx) v (gY hj))
  |_=>exact Zlg (by simpa[ZaD]using hx)
theorem PV.At.cells {p:PV}{v:Value}{cs:List PV}(h:PV.At w ι X p v)(hc:p.cells?=some cs):
  v.cells.size=cs.length/\(∀(j:Nat) (u:Value),v.cells[j]? =some u->u.oneCell'=true)/\∀(j:Nat) q u,cs[j]? =some q->v.cells[j]? =some u->PV.At w ι X q u:=by
 have one:∀{p:PV} {v:Value},PV.At w ι X p v->v.oneCell'=true->v.cells=#[v]->
   v.cells.size=[p].length/\(∀(j:Nat) (u:Value),v.cells[j]? =some u->u.oneCell'=true)/\∀(j:Nat) q u,[p][j]? =some q->v.cells[j]? =some u->PV.At w ι X q u:=by
  intro p v hp h1 h2;rw[h2];refine⟨rfl,?_,?_⟩
  ·intro j u hj;rcases j with _|j<;>simp at hj
   subst hj;exact h1
  ·intro j q u hq hj;rcases j with _|j<;>simp at hq hj
   subst hq;subst hj;exact hp
 cases h with
 |d x v h=>
  have ht:∀l,x≠ .tup l:=by rintro l rfl;simp[PV.cells?]at hc
  obtain⟨h1,h2,h3⟩:=h.cells ht;have:cs=x.cells.map .d:=by cases x<;>simp[PV.cells?]at hc<;>first|exact hc.symm|skip
  subst this;refine⟨by simpa using h1,h2,λ j q u hq hu=>?_⟩;rw[uI]at hq;cases hj:x.cells[j]? with
  |none=>rw[hj]at hq;cases hq
  |some d=>rw[hj]at hq;cases hq;exact .d _ _ (h3 j d u hj hu)
 |ag cs' arr hsz hone h=>cases hc;exact⟨hsz,hone,h⟩
 |tup=>cases hc
 |unk=>cases hc
 |und=>cases hc
 |ab=>cases hc
 |ref o sz off len cap capr b hι hl hc' hm hs=>cases hc;exact one (.ref o sz off len cap capr b hι hl hc' hm hs) rfl rfl
 |ref0 o sz off base=>cases hc;exact one (.ref0 o sz off base) rfl rfl
 |ptr o sz i c b hι=>cases hc;exact one (.ptr o sz i c b hι) rfl rfl
 |nilS=>cases hc;exact one .nilS rfl rfl
 |z0 base=>cases hc;exact one (.z0 base) rfl rfl
 |mp o b hι=>cases hc;exact one (.mp o b hι) rfl rfl
 |ifp T o b hι=>cases hc;exact one (.ifp T o b hι) rfl rfl
 |fn f cs' arr hsz h=>cases hc;exact one (.fn f cs' arr hsz h) rfl rfl
theorem Hold.change (h:Hold B X w0 n S a w ι)(ch:Option Nat)(o:Nat)(ob:Ob)(ι':Nat->Option Nat)(w':World)
  (hos:w'.os=w.os)(htape:w'.tape=w.tape)(hout:w'.output=w.output)(hsize:w.heap.size<=w'.heap.size)
  (hι:∀o',o'≠o->ι' o'=ι o')
  (hsame:∀b,ι o=some b->ι' o=some b)
  (hch:∀b,ch=some b->(∃o',ι o'=some b)/\(∀o',o'≠o->S.objs o'≠ .gone->ι o'≠some b)/\bsz w' b=bsz w b)
  (hkeep:∀b,b<w.heap.size->ch≠some b->w'.heap[b]? =w.heap[b]?)
  (hown:∀b,ι' o=some b->((ι o=some b/\S.objs o≠ .gone)\/w.heap.size<=b\/((∃o',ι o'=some b)/\∀o',o'≠o->S.objs o'≠ .gone->ι o'≠some b))/\b<w'.heap.size)
  (hob:Ob.At w' ι' X o ob):
  Hold B X w0 n {env:=S.env,objs:=upd o ob S.objs} a w' ι':=by
 have h1:∀o' b,ι o'=some b->ι' o'=some b/\bsz w' b=bsz w b:=by
  intro o' b hb;refine⟨?_,?_⟩
  ·by_cases he:o'=o
   ·subst he;exact hsame b hb
   ·exact(hι o' he).trans hb
  ·by_cases hc:ch=some b
   ·exact(hch b hc).2.2
   ·simp only[bsz,hkeep b (h.free o' b hb).2 hc]
 have h2:∀b,ownX ι' X b->ownX ι X b\/w.heap.size<=b:=by
  rintro b (hb|⟨o',hb⟩)
  ·exact .inl (.inl hb)
  ·by_cases he:o'=o
   ·subst he;rcases(hown b hb).1 with h|h|h
    ·exact .inl (.inr ⟨_,h.1⟩)
    ·exact .inr h
    ·exact .inl (.inr h.1)
   ·exact .inl (.inr ⟨o',by rw[<-hι o' he];exact hb⟩)
 have h3:∀b,b<w.heap.size->¬ownX ι X b->w'.heap[b]? =w.heap[b]? :=λ b hb hn=>hkeep b hb (λ he=>hn (.inr (hch b he).1))
 refine⟨h.size,h.defers,⟨hos.trans h.frame.os,htape.trans h.frame.tape,hout.trans h.frame.output,gP h.frame.size hsize,λ b hb=>?_⟩,h.hB,h.hXB,?_,?_,?_,?_,?_⟩
 ·rw[<-h.frame.keep b hb];refine hkeep b (gG (h.hB b hb) h.frame.size) (λ he=>?_);obtain⟨o',ho'⟩:=(hch b he).1;exact(h.free o' b ho').1 hb
 ·intro o1 o2 b g1 g2 e1 e2;have aux:∀o2 b,o2≠o->S.objs o2≠ .gone->ι' o=some b->ι o2=some b->False:=by
   intro o2 b q2 g2 e1 e2;rcases(hown b e1).1 with hh|hh|hh
   ·exact q2 (h.inj _ _ b g2 hh.2 e2 hh.1)
   ·have:=(h.free o2 b e2).2;omega
   ·exact hh.2 o2 q2 g2 e2
  by_cases q1:o1=o<;>by_cases q2:o2=o
  ·rw[q1,q2]
  ·subst q1;rw[hι o2 q2]at e2;simp only[upd,if_neg q2]at g2;exact(aux o2 b q2 g2 e1 e2).elim
  ·subst q2;rw[hι o1 q1]at e1;simp only[upd,if_neg q1]at g1;exact(aux o1 b q1 g1 e2 e1).elim
  ·rw[hι o1 q1]at e1;rw[hι o2 q2]at e2;simp only[upd,if_neg q1]at g1;simp only[upd,if_neg q2]at g2;exact h.inj _ _ b g1 g2 e1 e2
 ·intro o' b hb;by_cases he:o'=o
  ·subst he;refine⟨λ hB=>?_,(hown b hb).2⟩;rcases(hown b hb).1 with hh|hh|hh
   ·exact(h.free _ b hh.1).1 hB
   ·have:=h.hB b hB;have:=h.frame.size;omega
   ·obtain⟨o2,h2⟩:=hh.1;exact(h.free o2 b h2).1 hB
  ·rw[hι o' he]at hb;exact⟨(h.free o' b hb).1,gG (h.free o' b hb).2 hsize⟩
 ·exact λ t=>(h.env t).move h1 h2 h3
 ·intro o';by_cases he:o'=o
  ·subst he;simp only[upd,if_true];exact hob
  ·simp only[upd,if_neg he];exact(h.objs o').move (hι o' he) (λ hg b hb=>hkeep b (h.free o' b hb).2 (λ hc=>(hch b hc).2.1 o' he hg hb)) h1 h2 h3
 ·intro o' b hb;obtain⟨g1,g2,g3⟩:=h.stay o' b hb;obtain⟨g4,g5⟩:=h1 o' b g2;exact⟨g1,g4,g5.trans g3⟩
theorem Hold.gone (h:Hold B X w0 n S a w ι)(o:Nat):Hold B X w0 n {env:=S.env,objs:=upd o .gone S.objs} a w ι:=by
 refine⟨h.size,h.defers,h.frame,h.hB,h.hXB,λ o1 o2 b g1 g2 e1 e2=>?_,h.free,h.env,λ o'=>?_,h.stay⟩
 ·have q1:o1≠o:=λ he=>g1 (by subst he;exact if_pos rfl)
  have q2:o2≠o:=λ he=>g2 (by subst he;exact if_pos rfl)
  simp only[upd,if_neg q1]at g1;simp only[upd,if_neg q2]at g2;exact h.inj _ _ b g1 g2 e1 e2
 ·by_cases he:o'=o
  ·subst he;simp only[upd,if_true];exact .gone
  ·simp only[upd,if_neg he];exact h.objs o'
end hold
section hold
variable {P:Program}{B X:Nat->Prop}{w0:W0}{w:World}{n:Nat}{S:St}{a:Act}{ι:Nat->Option Nat}
theorem D.At.single {x:D}{v:Value}{Y:Nat->Prop}(h:D.At w Y x v)(h1:v.oneCell'=true):x.cells=[x]:=by
 cases h<;>first|rfl|(simp[Value.oneCell']at h1)
theorem Zdg {b o:Nat}{c:Array Value}{T:TypeId}{fr:Nat×Nat}(hb:w.heap[b]? =some (.cells c T fr)):w.cell? ⟨b,o,none⟩=c[o]? :=by
 simp[World.cell?,hb]
theorem ZAf {T:TypeId}{cs:List D}{va:Value}(hp:D.At w (ownX ι X) (.pt cs) va)(hok:(tyi P T).ok=true)(hc:(ldD (tyi P T) cs).1):
  ∃v,(Instr.loadAt T va).run P w= .ok v w/\D.At w (ownX ι X) (ldD (tyi P T) cs).2 v:=by
 cases hp with
 |pt cs b off vals hv h=>
  have hsz:((tyi P T).agg=true->P.cellsOf T<=cs.length)/\((tyi P T).agg=false->∃x r,cs=x::r):=by
   unfold ldD at hc;cases ha:(tyi P T).agg with
   |true=>simp only[ha,if_true]at hc;exact⟨λ _=>hc,(λ h=>by cases h)⟩
   |false=>
    simp only[ha,qD,jA]at hc;refine⟨(λ h=>by cases h),λ _=>?_⟩;cases cs with
    |nil=>simp at hc
    |cons x r=>exact⟨x,r,rfl⟩
  have hrun:=ZoV (P:=P) (w:=w) (t:=T) (b:=b) (off:=off) hok vals (λ j hj=>by
   have:j<cs.length:=by
    cases ha:(tyi P T).agg with
    |true=>rw[ha]at hj;simp at hj;have:=hsz.1 ha;omega
    |false=>rw[ha]at hj;simp at hj;obtain⟨x,r,rfl⟩:=hsz.2 ha;simp;omega
   exact(hv j _ (uR this)).1)
  refine⟨_,by simp only[Instr.loadAt,Instr.sureAddr,Sem.run_bind,Sem.run_pure,Result.andThen_ok];exact hrun,?_⟩;unfold ldD;cases ha:(tyi P T).agg with
  |true=>
   have hs:=hsz.1 ha;simp only[if_true];have hg:∀(j:Nat) (v:Value),((List.range (P.cellsOf T)).map vals).toArray[j]? =some v->j<P.cellsOf T/\v=vals j:=by
    intro j v hj;rw[kQ,uI]at hj;rcases uE j (P.cellsOf T)with hlt|hge
    ·rw[yR hlt]at hj;cases hj;exact⟨hlt,rfl⟩
    ·rw[uN (by simpa using hge)]at hj;cases hj
   refine .ag _ _ (by simp[tyi];omega) (λ j v hj=>?_) (λ j d v hd hj=>?_)
   ·obtain⟨hlt,rfl⟩:=hg j v hj;exact(hv j _ (uR (by omega))).2.1
   ·obtain⟨hlt,rfl⟩:=hg j v hj;rw[qH]at hd;split at hd
    ·exact h j d hd
    ·cases hd
  |false=>
   obtain⟨x,r,rfl⟩:=hsz.2 ha;simp only[qD,jA];exact h 0 x rfl
theorem ZlG (hS:Hold B X w0 n S a w ι){T:TypeId}{o sz i c:Nat}{va:Value}(hp:PV.At w ι X (.ptr o sz i c) va)(hok:(tyi P T).ok=true)
  (hc:(Zfy (tyi P T) (S.objs o) sz i c).1):∃v,(Instr.loadAt T va).run P w= .ok v w/\PV.At w ι X (Zfy (tyi P T) (S.objs o) sz i c).2 v:=by
 cases hp with
 |ptr o sz i c b hι=>
  have hob:=hS.objs o;generalize S.objs o=ob at hob hc;cases hob with
  |dead h=>rw[h]at hι;cases hι
  |gone=>exact hc.elim
  |imap=>exact hc.elim
  |iter=>exact hc.elim
  |row0 sz' h=>rw[h]at hι;cases hι
  |cells cs b' arr T' hι' hb hsz hone h=>
   rw[hι]at hι';cases hι';simp only[Zfy]at hc|-;generalize hq:i*sz+c=q at hc|-;have hcl:((tyi P T).agg=true->q+P.cellsOf T<=cs.length\/P.cellsOf T=0)/\((tyi P T).agg=false->∃x r,cs.drop q=x::r):=by
    unfold ldP at hc;cases ha:(tyi P T).agg with
    |true=>simp only[ha,if_true,kC]at hc;exact⟨λ _=>by simp[tyi]at hc;omega,(λ h=>by cases h)⟩
    |false=>
     simp only[ha,qD,jA]at hc;refine⟨(λ h=>by cases h),λ _=>?_⟩;cases hd:cs.drop q with
     |nil=>rw[hd]at hc;simp at hc
     |cons x r=>exact⟨x,r,rfl⟩
   have hrun:=ZoV (P:=P) (w:=w) (t:=T) (b:=b) (off:=q) hok (λ j=>arr.getD (q+j) undef) (λ j hj=>by
    have:q+j<arr.size:=by
     cases ha:(tyi P T).agg with
     |true=>rw[ha]at hj;simp at hj;have:=hcl.1 ha;omega
     |false=>
      rw[ha]at hj;simp at hj;obtain⟨x,r,hd⟩:=hcl.2 ha;have:=qU List.length hd;simp at this;omega
    rw[Zdg hb];simp[Array.getD,this])
   refine⟨_,by simp only[Instr.loadAt,Instr.sureAddr,Sem.run_bind,Sem.run_pure,Result.andThen_ok];exact hrun,?_⟩;unfold ldP;cases ha:(tyi P T).agg with
   |true=>
    have hs:=hcl.1 ha;simp only[if_true];have hg:∀(j:Nat) (v:Value),((List.range (P.cellsOf T)).map λ j=>arr.getD (q+j) undef).toArray[j]? =some v->j<P.cellsOf T/\arr[q+j]? =some v:=by
     intro j v hj;rw[kQ,uI]at hj;rcases uE j (P.cellsOf T)with hlt|hge
     ·rw[yR hlt]at hj;cases hj;have hlt2:q+j<arr.size:=by omega
      exact⟨hlt,by simp[Array.getD,hlt2]⟩
     ·rw[uN (by simpa using hge)]at hj;cases hj
    refine .ag _ _ (by simp[tyi];omega) (λ j v hj=>?_) (λ j d v hd hj=>?_)
    ·exact hone _ v (hg j v hj).2
    ·obtain⟨hlt,hv⟩:=hg j v hj;rw[qH]at hd;split at hd
     ·rw[gA]at hd;exact h (q+j) d v hd hv
     ·cases hd
   |false=>
    obtain⟨x,r,hd⟩:=hcl.2 ha;simp only[qD,jA,hd];have h0:cs[q]? =some x:=by have:=qU (·[0]?) hd;simpa using this
    have hlt:q<arr.size:=by have:=(uB.1 h0).1;omega
    exact h q x _ h0 (by simp[Array.getD,hlt])
  |row sz' l b' arr T' hι' hb hsz hcl hone h=>
   rw[hι]at hι';cases hι';simp only[Zfy]at hc|-;obtain⟨rfl,hi,hc⟩:=hc;have hli:l[i]? =some l[i]:=uR hi;simp only[hli,yN]at hc|-;have hcs:l[i].cells.length=sz:=hcl _ (jO hi);have hroom:i*sz+sz<=arr.size:=by
    have:(i+1)*sz<=l.length*sz:=yO _ hi;rw[qJ]at this;omega
   have hld:D.At w (ownX ι X) (.pt (l[i].cells.drop c)) (.pointer (some ⟨b,i*sz+c,none⟩))\/True:= .inr trivial;have hcl2:((tyi P T).agg=true->c+P.cellsOf T<=sz\/P.cellsOf T=0)/\((tyi P T).agg=false->∃x r,l[i].cells.drop c=x::r):=by
    unfold ldD at hc;cases ha:(tyi P T).agg with
    |true=>simp only[ha,if_true,kC]at hc;exact⟨λ _=>by simp[tyi]at hc;omega,(λ h=>by cases h)⟩
    |false=>
     simp only[ha,qD,jA]at hc;refine⟨(λ h=>by cases h),λ _=>?_⟩;cases hd:l[i].cells.drop c with
     |nil=>rw[hd]at hc;simp at hc
     |cons x r=>exact⟨x,r,rfl⟩
   have hrun:=ZoV (P:=P) (w:=w) (t:=T) (b:=b) (off:=i*sz+c) hok (λ j=>arr.getD (i*sz+c+j) undef) (λ j hj=>by
    have:i*sz+c+j<arr.size:=by
     cases ha:(tyi P T).agg with
     |true=>rw[ha]at hj;simp at hj;have:=hcl2.1 ha;omega
     |false=>
      rw[ha]at hj;simp at hj;obtain⟨x,r,hd⟩:=hcl2.2 ha;have:=qU List.length hd;simp at this;omega
    rw[Zdg hb];simp[Array.getD,this])
   refine⟨_,by simp only[Instr.loadAt,Instr.sureAddr,Sem.run_bind,Sem.run_pure,Result.andThen_ok];exact hrun, .d _ _ ?_⟩;unfold ldD;cases ha:(tyi P T).agg with
   |true=>
    have hs:=hcl2.1 ha;simp only[if_true];have hg:∀(j:Nat) (v:Value),((List.range (P.cellsOf T)).map λ j=>arr.getD (i*sz+c+j) undef).toArray[j]? =some v->j<P.cellsOf T/\arr[i*sz+c+j]? =some v:=by
     intro j v hj;rw[kQ,uI]at hj;rcases uE j (P.cellsOf T)with hlt|hge
     ·rw[yR hlt]at hj;cases hj;have hlt2:i*sz+c+j<arr.size:=by omega
      exact⟨hlt,by simp[Array.getD,hlt2]⟩
     ·rw[uN (by simpa using hge)]at hj;cases hj
    refine .ag _ _ (by simp[tyi];omega) (λ j v hj=>?_) (λ j d v hd hj=>?_)
    ·exact hone _ v (hg j v hj).2
    ·obtain⟨hlt,hv⟩:=hg j v hj;rw[qH]at hd;split at hd
     ·rw[gA]at hd;rw[kX]at hv;exact h i _ (c+j) d v hli hd hv
     ·cases hd
   |false=>
    obtain⟨x,r,hd⟩:=hcl2.2 ha;simp only[qD,jA,hd];have h0:l[i].cells[c]? =some x:=by have:=qU (·[0]?) hd;simpa using this
    have hlt:i*sz+c<arr.size:=by have:=(uB.1 h0).1;omega
    exact h i _ c x _ hli h0 (by simp[Array.getD,hlt])
theorem ZD5 (hS:Hold B X w0 n S a w ι){dst:Option Nat}{T:TypeId}{x:Operand}{ty:TypeId}{pos:String}{af:Array Edge}{gd:Option (Nat×Bool)}(hd:∀t,dst=some t->t<n)(hx:ZaD x=true)
  (hc:(Zdc (tyi P T) S.objs (S.ev x)).1):ZaQ P B X w0 n ⟨dst, .load T x,ty,pos,af,gd⟩ (S.app dst (Zdc (tyi P T) S.objs (S.ev x)).2) a w:=by
 have hp:=hS.ev hx;generalize S.ev x=p at hc hp;unfold Zdc at hc|-;split at hc
 ·obtain⟨hok,hc⟩:=hc;simp only;rw[ZaT];cases hp with
  |d _ _ hp=>
   obtain⟨v,hr,hv⟩:=ZAf hp hok hc;exact hS.goes hd (by simp only[execOp,Sem.run_bind,hr,Result.andThen_ok,Sem.run_pure]) (.d _ _ hv)
 ·obtain⟨hok,hc⟩:=hc;simp only;rw[ZiC];obtain⟨v,hr,hv⟩:=ZlG hS hp hok hc;exact hS.goes hd (by simp only[execOp,Sem.run_bind,hr,Result.andThen_ok,Sem.run_pure]) hv
 ·exact hc.elim
end hold
section hold
variable {P:Program}{B X:Nat->Prop}{w0:W0}{w:World}{n:Nat}{S:St}{a:Act}{ι:Nat->Option Nat}{dst:Option Nat}{ty:TypeId}{pos:String}{af:Array Edge}{gd:Option (Nat×Bool)}
theorem ZEb (hS:Hold B X w0 n S a w ι){x:Operand}(hd:∀t,dst=some t->t<n)(hx:ZaD x=true):ZaQ P B X w0 n ⟨dst, .move x,ty,pos,af,gd⟩ (S.app dst (.v (S.ev x))) a w:=by
 rw[ZaT];exact hS.goes hd rfl (hS.ev hx)
theorem ZDQ (hS:Hold B X w0 n S a w ι){x:Operand}(hd:∀t,dst=some t->t<n)(hx:ZaD x=true):ZaQ P B X w0 n ⟨dst, .assign x,ty,pos,af,gd⟩ (S.app dst (.v (S.ev x))) a w:=by
 rw[ZaT];exact hS.goes hd rfl (hS.ev hx)
theorem ZEd (hS:Hold B X w0 n S a w ι){c x y:Operand}(hd:∀t,dst=some t->t<n)(h0:ZaD c=true)(hx:ZaD x=true)(hy:ZaD y=true)(hc:(Zhy (S.ev c) (S.ev x) (S.ev y)).1):
  ZaQ P B X w0 n ⟨dst, .pick c x y,ty,pos,af,gd⟩ (S.app dst (Zhy (S.ev c) (S.ev x) (S.ev y)).2) a w:=by
 have hp:=hS.ev h0;have hpx:=hS.ev hx;have hpy:=hS.ev hy;generalize S.ev c=p at hc hp;unfold Zhy at hc|-;split at hc
 ·rename_i t;simp only;rw[ZaT];cases hp with
  |d _ _ hp=>
   have e:a.eval c= .bool t:=by cases h:a.eval c<;>rw[h]at hp<;>cases hp;rfl
   cases t
   ·exact hS.goes hd (by simp[execOp,e,asBool]) hpy
   ·exact hS.goes hd (by simp[execOp,e,asBool]) hpx
 ·exact hc.elim
theorem ZD0 (hS:Hold B X w0 n S a w ι){T:TypeId}{x:Operand}{f:Nat}(hd:∀t,dst=some t->t<n)(hx:ZaD x=true)
  (hc:(Zhr P (tyi P T) f (S.ev x)).1):ZaQ P B X w0 n ⟨dst, .fieldAddr T x f,ty,pos,af,gd⟩ (S.app dst (Zhr P (tyi P T) f (S.ev x)).2) a w:=by
 have hp:=hS.ev hx;generalize S.ev x=p at hc hp;unfold Zhr at hc|-;cases hf:(tyi P T).fields[f]? with
 |none=>rw[hf]at hc;exact hc.elim
 |some q=>
  obtain⟨off,ft⟩:=q;rw[hf]at hc;simp only at hc|-;have run:∀(b o:Nat),a.eval x= .pointer (some ⟨b,o,none⟩)->(tyi P T).kind=3->P.cellsOf ft≠0->
    (execOp a.eval ⟨dst, .fieldAddr T x f,ty,pos,af,gd⟩).run P w= .ok (.value (.pointer (some ⟨b,o+off,none⟩))) w:=by
   intro b o e hk hne;obtain⟨fs,hu⟩:=ZzA hk;have hff:∃fd,fs[f]? =some fd/\fd.offset=off/\fd.type=ft:=by
    simp only[tyi,hu]at hf;rw[uI,qS]at hf;cases hq:fs[f]? with
    |none=>rw[hq]at hf;cases hf
    |some fd=>rw[hq]at hf;cases hf;exact⟨fd,rfl,rfl,rfl⟩
   obtain⟨fd,hfd,rfl,rfl⟩:=hff;have hsz:=Zio (P:=P) hne w;simp only[execOp,Instr.fieldAt,e,Sem.run_bind,run_underlying hu,Result.andThen_ok,hfd,Instr.sureAddr,Sem.run_pure,fieldPlace,hsz,hne,jA,ZdJ]
  cases p with
  |d dd=>
   cases dd with
   |pt cs=>
    obtain⟨hk,hne⟩:=hc;simp only;rw[ZaT];cases hp with
    |d _ _ hp=>
     generalize hva:a.eval x=va at hp;cases hp with
     |pt cs b o vals hv h=>
      refine hS.goes hd (run b o hva hk hne) (.d _ _ ?_);refine .pt _ b (o+off) (λ j=>vals (off+j)) (λ j c hj=>?_) (λ j c hj=>?_)
      ·rw[gA]at hj;have:=hv (off+j) c hj;rw[kX];exact this
      ·rw[gA]at hj;exact h (off+j) c hj
   |_=>exact hc.elim
  |ptr o sz i c=>
   obtain⟨hk,hne⟩:=hc;simp only;rw[ZaT];generalize hva:a.eval x=va at hp;cases hp with
   |ptr o sz i c b hι=>
    refine hS.goes hd (run b _ hva hk hne) ?_;rw[kX];exact .ptr o sz i (c+off) b hι
  |_=>exact hc.elim
theorem ZwE {v:Value}{k:IntKind}{m:Int}(h:v= .int k m):(asIntOf v).run P w= .ok (k,m) w:=by subst h;rfl
theorem Zbt {v:Value}{m:Int}(h:PV.At w ι X (.d (.sc (.int .i64 m))) v):v= .int .i64 m:=by
 cases h with
 |d _ _ h=>cases h;rfl
theorem ZjL {v:Value}{b:Bool}(h:PV.At w ι X (.d (.sc (.bool b))) v):v= .bool b:=by
 cases h with
 |d _ _ h=>cases h;rfl
theorem ZD3 (hS:Hold B X w0 n S a w ι){T:TypeId}{x i:Operand}(hd:∀t,dst=some t->t<n)(hx:ZaD x=true)(hi:ZaD i=true)
  (hc:(Zhu (tyi P T) (P.cellsOf (tyi P T).elem) (S.ev x) (S.ev i)).1):ZaQ P B X w0 n ⟨dst, .indexAddr T x i,ty,pos,af,gd⟩ (S.app dst (Zhu (tyi P T) (P.cellsOf (tyi P T).elem) (S.ev x) (S.ev i)).2) a w:=by
 have hp:=hS.ev hx;have hq:=hS.ev hi;generalize S.ev x=p at hc hp;generalize S.ev i=q at hc hq;unfold Zhu at hc|-;split at hc
 ·rename_i l m;obtain⟨hk,hne,h0,hlt,hcl⟩:=hc;simp only;rw[ZaT];have hu:=ZdT hk;have ei:=Zbt hq;have hsz':=Zio (P:=P) (u:=(tyi P T).elem) hne w;generalize hva:a.eval x=va at hp;cases hp with
  |d _ _ hp=>
   have hli:l[m.toNat]? =some l[m.toNat]:=uR hlt;simp only[hli,yN]at hcl|-;cases hp with
   |slnil=>simp at hlt
   |sl l b off cap sz hl hcap hsz vals hv h=>
    have hs:sz=P.cellsOf (tyi P T).elem:=by rw[<-hcl];exact(hsz _ (jO hlt)).symm
    refine hS.goes (v:= .pointer (some ⟨b,off+m.toNat*sz,none⟩)) hd ?_ (.d _ _ ?_)
    ·simp[execOp,Instr.indexAt,hva,ei,asIntOf,run_underlying hu,hsz',h0,hs,ZdJ];omega
    ·exact .pt _ b _ (λ j=>vals m.toNat j) (λ j c hj=>hv m.toNat _ j c hli hj) (λ j c hj=>h m.toNat _ j c hli hj)
 ·rename_i o sz off len cap m;obtain⟨hk,hne,h0,hlt,hs⟩:=hc;simp only;rw[ZaT];have hu:=ZdT hk;have ei:=Zbt hq;have hsz':=Zio (P:=P) (u:=(tyi P T).elem) hne w;generalize hva:a.eval x=va at hp;cases hp with
  |ref0=>simp at hlt
  |ref o sz off len cap capr b hι hl hcc hm hss=>
   refine hS.goes (v:= .pointer (some ⟨b,(off+m.toNat)*sz+0,none⟩)) hd ?_ (.ptr o sz (off+m.toNat) 0 b hι);simp[execOp,Instr.indexAt,hva,ei,asIntOf,run_underlying hu,hsz',h0,hs,ZdJ,qJ];omega
 ·rename_i o sz i0 c m;obtain⟨hk,hne,h0,hlt⟩:=hc;simp only;rw[ZaT];have hu:=Zr6 hk;have ei:=Zbt hq;have hsz':=Zio (P:=P) (u:=(tyi P T).elem) hne w;generalize hva:a.eval x=va at hp;cases hp with
  |ptr o sz i c b hι=>
   refine hS.goes (v:= .pointer (some ⟨b,i0*sz+(c+m.toNat*P.cellsOf (tyi P T).elem),none⟩)) hd ?_ (.ptr o sz i0 (c+m.toNat*P.cellsOf (tyi P T).elem) b hι);have hm:m<(tyi P T).len:=by omega
   simp[execOp,Instr.indexAt,hva,ei,asIntOf,run_underlying hu,hsz',h0,hm,ZdJ,Instr.sureAddr,kX]
 ·exact hc.elim
theorem ZEj (hS:Hold B X w0 n S a w ι){op:UnOp}{T:TypeId}{x:Operand}(hd:∀t,dst=some t->t<n)(hx:ZaD x=true)
  (hc:(ZhA op (S.ev x)).1):ZaQ P B X w0 n ⟨dst, .unOp op T x,ty,pos,af,gd⟩ (S.app dst (ZhA op (S.ev x)).2) a w:=by
 have hp:=hS.ev hx;generalize S.ev x=p at hc hp;unfold ZhA at hc|-;split at hc
 ·simp only;rw[ZaT];exact hS.goes hd (by simp[execOp,ZjL hp,Op.unary]) (.d _ _ (.sc _ rfl))
 ·simp only;rw[ZaT];obtain⟨b,e1⟩:∃b,a.eval x= .bool b:=by
   generalize a.eval x=v at hp;cases hp;exact⟨_,rfl⟩
  exact hS.goes hd (by simp[execOp,e1,Op.unary]) (.ab (!b))
 ·simp only;rw[ZaT];exact hS.goes hd (by simp[execOp,Zbt hp,Op.unary,Op.intArith]) (.d _ _ (.sc _ rfl))
 ·rename_i m;simp only;rw[ZaT];have e1:a.eval x= .int .u64 m:=by
   generalize a.eval x=v at hp;cases hp with
   |d _ _ h=>cases h;rfl
  exact hS.goes hd (by simp[execOp,e1,Op.unary,Op.intArith]) (.d _ _ (.sc _ rfl))
 ·exact hc.elim
theorem ZEc (hS:Hold B X w0 n S a w ι){x:Operand}(hd:∀t,dst=some t->t<n)(hx:ZaD x=true)
  (hc:(Zhx (S.ev x)).1):ZaQ P B X w0 n ⟨dst, .nilCheck x,ty,pos,af,gd⟩ (S.app dst (Zhx (S.ev x)).2) a w:=by
 have hp:=hS.ev hx;generalize S.ev x=p at hc hp;unfold Zhx at hc|-;split at hc
 ·simp only;rw[ZaT];generalize hv:a.eval x=v at hp;cases hp with
  |d _ _ h=>
   cases h with
   |pt _ b off vals h1 h2=>exact hS.goes hd (v:= .pointer (some ⟨b,off,none⟩)) (by simp only[execOp,hv];rfl) (.d _ _ (.pt _ b off vals h1 h2))
 ·simp only;rw[ZaT];generalize hv:a.eval x=v at hp;cases hp with
  |ptr _ _ _ _ b hι=>exact hS.goes hd (v:= .pointer (some ⟨b,_,none⟩)) (by simp only[execOp,hv];rfl) (.ptr _ _ _ _ b hι)
 ·exact hc.elim
theorem ZuF (hS:Hold B X w0 n S a w ι){x:Operand}{i:Nat}(hd:∀t,dst=some t->t<n)(hx:ZaD x=true)
  (hc:(Zgd (S.ev x) i).1):ZaQ P B X w0 n ⟨dst, .extract x i,ty,pos,af,gd⟩ (S.app dst (Zgd (S.ev x) i).2) a w:=by
 have hp:=hS.ev hx;generalize S.ev x=p at hc hp;unfold Zgd at hc|-;split at hc
 ·rename_i vs;cases hi:vs[i]? with
  |none=>rw[hi]at hc;exact hc.elim
  |some d=>
   simp only;rw[ZaT];generalize hva:a.eval x=va at hp;cases hp with
   |tup cs arr hsz h=>
    have hlt:i<arr.size:=by have:=(uB.1 hi).1;omega
    have hai:arr[i]? =some arr[i]:=uU hlt;exact hS.goes hd (by simp[execOp,hva,Instr.extract,hai]) (h i d _ hi hai)
 ·rename_i vs;cases hi:vs[i]? with
  |none=>rw[hi]at hc;exact hc.elim
  |some d=>
   simp only;rw[ZaT];generalize hva:a.eval x=va at hp;cases hp with
   |d _ _ hp=>
    cases hp with
    |tup cs arr hsz h=>
     have hlt:i<arr.size:=by have:=(uB.1 hi).1;omega
     have hai:arr[i]? =some arr[i]:=uU hlt;exact hS.goes hd (by simp[execOp,hva,Instr.extract,hai]) (.d _ _ (h i d _ hi hai))
 ·exact hc.elim
end hold
section hold
variable {P:Program}{B X:Nat->Prop}{w0:W0}{w:World}{n:Nat}{S:St}{a:Act}{ι:Nat->Option Nat}{dst:Option Nat}{ty:TypeId}{pos:String}{af:Array Edge}{gd:Option (Nat×Bool)}
theorem Zm5 {v:Value}{m:Int}{y:Nat}{code:BoundsCode}(hv:v= .int .i64 m)(h1:0<=m)(h2:m<=y):(Instr.sliceBound v y code).run P w= .ok m.toNat w:=by
 subst hv;simp[Instr.sliceBound,asIntOf,h1,h2]
theorem Zw1 {len cap:Nat}{lo hi:Option Operand}{l h:Int}(hS:Hold B X w0 n S a w ι)(hlo:∀x,lo=some x->ZaD x=true)(hhi:∀x,hi=some x->ZaD x=true)
  (h1:Ze1 0 (lo.map S.ev)=some l)(h2:Ze1 len (hi.map S.ev)=some h)(h0:0<=l)(hlh:l<=h)(hhl:h<=len)(hlc:len<=cap):
  (Instr.sliceBounds true len cap (lo.map a.eval) (hi.map a.eval) none).run P w= .ok (l.toNat,h.toNat,cap) w:=by
 have e1:∀x,lo=some x->a.eval x= .int .i64 l:=by
  rintro x rfl;have:=hS.ev (hlo x rfl);simp only[qB]at h1;generalize S.ev x=p at h1 this;unfold Ze1 at h1;split at h1
  ·rename_i heq;cases heq
  ·rename_i heq;cases heq;cases h1;exact Zbt this
  ·cases h1
 have e2:∀x,hi=some x->a.eval x= .int .i64 h:=by
  rintro x rfl;have:=hS.ev (hhi x rfl);simp only[qB]at h2;generalize S.ev x=p at h2 this;unfold Ze1 at h2;split at h2
  ·rename_i heq;cases heq
  ·rename_i heq;cases heq;cases h2;exact Zbt this
  ·cases h2
 have rl:∀(c:BoundsCode) (x:Operand),lo=some x->(Instr.sliceBound (a.eval x) h.toNat c).run P w= .ok l.toNat w:=λ c x hx=>Zm5 (e1 x hx) h0 (by omega)
 have rh:∀(c:BoundsCode) (x:Operand),hi=some x->(Instr.sliceBound (a.eval x) cap c).run P w= .ok h.toNat w:=λ c x hx=>Zm5 (e2 x hx) (by omega) (by omega)
 cases lo with
 |none=>
  simp only[Br,Ze1,yI]at h1;cases hi with
  |none=>
   simp only[Br,Ze1,yI]at h2;simp[Instr.sliceBounds];omega
  |some y=>simp[Instr.sliceBounds,rh _ y rfl];omega
 |some x=>
  cases hi with
  |none=>
   simp only[Br,Ze1,yI]at h2;have:h.toNat=len:=by omega
   rw[this]at rl;simp[Instr.sliceBounds,rl _ x rfl];omega
  |some y=>simp[Instr.sliceBounds,rl _ x rfl,rh _ y rfl]
theorem ZEg (hS:Hold B X w0 n S a w ι){T:TypeId}{x:Operand}{lo hi mx:Option Operand}(hd:∀t,dst=some t->t<n)(hx:ZaD x=true)
  (hlo:∀x,lo=some x->ZaD x=true)(hhi:∀x,hi=some x->ZaD x=true)(hmx:∀x,mx=some x->ZaD x=true)
  (hc:(Zhz (tyi P T) (P.cellsOf (tyi P T).elem) (S.ev x) (lo.map S.ev) (hi.map S.ev) (mx.map S.ev)).1):
  ZaQ P B X w0 n ⟨dst, .slice T x lo hi mx,ty,pos,af,gd⟩ (S.app dst (Zhz (tyi P T) (P.cellsOf (tyi P T).elem) (S.ev x) (lo.map S.ev) (hi.map S.ev) (mx.map S.ev)).2) a w:=by
 have hp:=hS.ev hx;unfold Zhz at hc|-;split at hc
 case h_2=>exact hc.elim
 rename_i len l hlen hl;split at hc
 ·rename_i h hh hm;have hmn:mx=none:=by cases mx<;>first|rfl|cases hm
  subst hmn;obtain⟨hk,hne,h0,hlh,hhl,hok⟩:=hc;simp only[hlen,hl,hh,Br];rw[ZaT];have hu:=ZdT hk;have hsz':=Zio (P:=P) (u:=(tyi P T).elem) hne w;have run:∀(base:Option Addr) (cap:Nat),a.eval x= .slice base len cap->len<=cap->
    (execOp a.eval ⟨dst, .slice T x lo hi none,ty,pos,af,gd⟩).run P w= .ok (.value (.slice (if cap=l.toNat then base else base.map (·.add (l.toNat*P.cellsOf (tyi P T).elem))) (h.toNat-l.toNat) (cap-l.toNat))) w:=by
   intro base cap hv hlc;have hb:=Zw1 (P:=P) hS hlo hhi hl hh h0 hlh hhl hlc;simp[execOp,Instr.sliceAt,Instr.slice,run_underlying hu,hv,hb,hsz']
  generalize hva:a.eval x=va at hp;generalize S.ev x=p at hp hlen hok;cases hp with
  |d d0 _ hd0=>
   cases hd0 with
   |slnil base cap=>
    simp only[ZdC,uY,yI]at hlen;subst hlen;have e1:l.toNat=0:=by omega
    have e2:h.toNat=0:=by omega
    refine hS.goes hd (run base cap hva (by omega)) ?_;rw[e1,e2];exact .d _ _ (.slnil _ _)
   |sl xs b off cap sz hl' hcap hsz vals hv hat=>
    simp only[ZdC,yI]at hlen;subst hlen;refine hS.goes hd (run _ cap hva hl') ?_;by_cases he:l=h
    ·subst he;simp only[ZkD,jD];rw[kI (by simp;omega)];exact .d _ _ (.slnil _ _)
    ·have hcl:cap≠l.toNat:=by omega
     have hs:sz=P.cellsOf (tyi P T).elem:=by
      have h1:l.toNat<xs.length:=by omega
      rw[<-hok _ (jO h1)];exact(hsz _ (jO h1)).symm
     rw[if_neg hcl];simp only[ZkD,qB,ZdJ];have hlen2:((xs.take h.toNat).drop l.toNat).length=h.toNat-l.toNat:=by simp;omega
     have hget:∀(i:Nat) d,((xs.take h.toNat).drop l.toNat)[i]? =some d->xs[l.toNat+i]? =some d:=by
      intro i d hi;rw[gA,qH]at hi;split at hi
      ·exact hi
      ·cases hi
     have:=D.At.sl (w:=w) (X:=ownX ι X) ((xs.take h.toNat).drop l.toNat) b (off+l.toNat*sz) (cap-l.toNat) sz (by rw[hlen2];omega) (by omega)
      (λ d hd=>hsz d (gT (kY hd))) (λ i j=>vals (l.toNat+i) j)
      (λ i d j c hi hj=>by
       have:=hv (l.toNat+i) d j c (hget i d hi) hj;rw[show off+l.toNat*sz+i*sz+j=off+(l.toNat+i)*sz+j by rw[qJ];omega];exact this)
      (λ i d j c hi hj=>hat (l.toNat+i) d j c (hget i d hi) hj)
     rw[hlen2]at this;rw[<-hs];exact .d _ _ this
   |_=>simp[ZdC]at hlen
  |ref o sz off len' cap capr b hι hl' hcc hm hss=>
   simp only[ZdC,yI]at hlen;subst hlen;simp only[Zo9]at hok;refine hS.goes hd (run _ capr hva hl') ?_;simp only[ZkD];by_cases he:capr=l.toNat
   ·rw[if_pos he];have e1:h.toNat-l.toNat=0:=by omega
    have e2:cap-l.toNat=0:=by omega
    have e3:capr-l.toNat=0:=by omega
    rw[e1,e2,e3];exact .ref0 _ _ _ _
   ·rw[if_neg he];simp only[qB,ZdJ];have:=PV.At.ref (w:=w) (X:=X) o sz (off+l.toNat) (h.toNat-l.toNat) (cap-l.toNat) (capr-l.toNat) b hι (by omega) (by omega) (by omega)
     (by rw[<-hss];congr 1;omega)
    rw[qJ]at this;rw[<-hok];exact this
  |ref0 o sz off base=>
   simp only[ZdC,yI]at hlen;subst hlen;have e1:l.toNat=0:=by omega
   have e2:h.toNat=0:=by omega
   refine hS.goes hd (run base 0 hva (by omega)) ?_;rw[e1,e2,if_pos rfl];exact .ref0 _ _ _ _
  |nilS=>
   simp only[ZdC,yI]at hlen;subst hlen;have e1:l.toNat=0:=by omega
   have e2:h.toNat=0:=by omega
   refine hS.goes hd (run none 0 hva (by omega)) ?_;rw[e1,e2,if_pos rfl];exact .nilS
  |z0 base=>
   simp only[ZdC,yI]at hlen;subst hlen;have e1:l.toNat=0:=by omega
   have e2:h.toNat=0:=by omega
   refine hS.goes hd (run base 0 hva (by omega)) ?_;rw[e1,e2,if_pos rfl];exact .z0 _
  |_=>simp[ZdC]at hlen
 ·rename_i h m hh hm;obtain⟨hk,hne,hhs,rfl,rfl,rfl⟩:=hc;simp only[hlen,hl,hh,hm];rw[ZaT];have hu:=ZdT hk;have hsz':=Zio (P:=P) (u:=(tyi P T).elem) hne w;cases mx with
  |none=>cases hm
  |some z=>
   cases hi with
   |none=>simp at hhs
   |some y=>
    simp only[qB,yI]at hm hh;have ez:a.eval z= .int .i64 0:=by
     have:=hS.ev (hmx z rfl);rw[hm]at this;exact Zbt this
    have ey:a.eval y= .int .i64 0:=by
     have:=hS.ev (hhi y rfl);generalize S.ev y=p at hh this;unfold Ze1 at hh;split at hh
     ·rename_i heq;cases heq
     ·rename_i heq;cases heq;cases hh;exact Zbt this
     ·cases hh
    have el:∀x,lo=some x->a.eval x= .int .i64 0:=by
     rintro x rfl;have:=hS.ev (hlo x rfl);simp only[qB]at hl;generalize S.ev x=p at hl this;unfold Ze1 at hl;split at hl
     ·rename_i heq;cases heq
     ·rename_i heq;cases heq;cases hl;exact Zbt this
     ·cases hl
    have hsl:∃base len' cap,a.eval x= .slice base len' cap:=by
     generalize a.eval x=va at hp;generalize S.ev x=p at hp hlen;cases hp with
     |d _ _ h=>cases h<;>first|exact⟨_,_,_,rfl⟩|simp[ZdC]at hlen
     |ref=>exact⟨_,_,_,rfl⟩
     |ref0=>exact⟨_,_,_,rfl⟩
     |nilS=>exact⟨_,_,_,rfl⟩
     |z0=>exact⟨_,_,_,rfl⟩
     |_=>simp[ZdC]at hlen
    obtain⟨base,len',cap,hv⟩:=hsl;have b0:∀(y:Nat) (c:BoundsCode),(Instr.sliceBound (.int .i64 0) y c).run P w= .ok 0 w:=λ y c=>Zm5 (m:=0) rfl (by omega) (by omega)
    refine hS.goes (v:= .slice base 0 0) hd ?_ (.z0 base);cases lo with
    |none=>simp[execOp,Instr.sliceAt,Instr.slice,Instr.sliceBounds,run_underlying hu,hv,ez,ey,b0,hsz']
    |some x'=>simp[execOp,Instr.sliceAt,Instr.slice,Instr.sliceBounds,run_underlying hu,hv,ez,ey,b0,hsz',el x' rfl]
 ·exact hc.elim
end hold
end Go.PS
