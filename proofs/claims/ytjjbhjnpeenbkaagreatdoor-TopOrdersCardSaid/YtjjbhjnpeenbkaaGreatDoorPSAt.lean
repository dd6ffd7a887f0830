/- Symbolic and real states: the relation, and what keeps it. -/
import Derived.Test.YtjjbhjnpeenbkaaGreatDoorPSAlias
import Derived.Laws.Strings
set_option linter.unusedSimpArgs false
set_option linter.unusedVariables false
set_option maxHeartbeats 16000000
namespace Go.PS
open Go
theorem ZhZ {w:World}{b o:Nat}{v:Value}(h:w.cell? ⟨b,o,none⟩=some v):b<w.heap.size:=
 World.block_lt_of_cell? (w:=w) (a:=⟨b,o,none⟩) h
theorem D.At.mono {w w':World}{X X':Nat->Prop}{x:D}{v:Value}(h:D.At w X x v)
  (hX:∀b,X' b->X b\/w.heap.size<=b)(hw:∀b,b<w.heap.size->¬X b->w'.heap[b]? =w.heap[b]?):D.At w' X' x v:=by
 induction h with
 |sc v h=>exact .sc v h
 |ag cs arr hsz hone _ ih=>exact .ag cs arr hsz hone ih
 |slnil base cap=>exact .slnil base cap
 |sl l b off cap sz hl hc hsz vals hv _ ih=>
  refine .sl l b off cap sz hl hc hsz vals (λ i d j c hi hj=>?_) ih;obtain⟨h1,h2,h3⟩:=hv i d j c hi hj;have hlt:=ZhZ h1;refine⟨?_,h2,λ hx=>?_⟩
  ·rw[World.cell?_of_block (w:=w) (a:=⟨b,off+i*sz+j,none⟩) (hw b hlt h3)];exact h1
  ·rcases hX b hx with h|h
   ·exact h3 h
   ·omega
 |tup cs arr hsz _ ih=>exact .tup cs arr hsz ih
 |pt cs b off vals hv _ ih=>
  refine .pt cs b off vals (λ j c hj=>?_) ih;obtain⟨h1,h2,h3⟩:=hv j c hj;have hlt:=ZhZ h1;refine⟨?_,h2,λ hx=>?_⟩
  ·rw[World.cell?_of_block (w:=w) (a:=⟨b,off+j,none⟩) (hw b hlt h3)];exact h1
  ·rcases hX b hx with h|h
   ·exact h3 h
   ·omega
 |fn f cs arr hsz _ ih=>exact .fn f cs arr hsz ih
theorem D.At.sub {w:World}{X X':Nat->Prop}{x:D}{v:Value}(h:D.At w X x v)(hX:∀b,X' b->X b):D.At w X' x v:=
 h.mono (λ b hb=> .inl (hX b hb)) (λ _ _ _=>rfl)
theorem D.At.cells {w:World}{X:Nat->Prop}{x:D}{v:Value}(h:D.At w X x v)(ht:∀l,x≠ .tup l):
  v.cells.size=x.cells.length/\(∀(j:Nat) (u:Value),v.cells[j]? =some u->u.oneCell'=true)/\∀(j:Nat) d u,x.cells[j]? =some d->v.cells[j]? =some u->D.At w X d u:=by
 cases h with
 |ag cs arr hsz hone h=>exact⟨hsz,hone,h⟩
 |tup=>exact absurd rfl (ht _)
 |sc v h=>
  refine⟨?_,?_,?_⟩
  ·cases v<;>first|rfl|simp[Value.oneCell']at h
  all_goals
   have e:v.cells=#[v]:=by cases v<;>first|rfl|simp[Value.oneCell']at h
   rw[e]
  ·intro j u hj;rcases j with _|j<;>simp at hj
   subst hj;exact h
  ·intro j d u hd hj;rcases j with _|j<;>simp[D.cells]at hd hj
   subst hd;subst hj;exact .sc v h
 |slnil base cap=>
  refine⟨rfl,?_,?_⟩<;>intro j
  ·intro u hj;rcases j with _|j<;>simp[Value.cells]at hj
   subst hj;rfl
  ·intro d u hd hj;rcases j with _|j<;>simp[D.cells,Value.cells]at hd hj
   subst hd;subst hj;exact .slnil base cap
 |sl l b off cap sz hl hc hsz vals hv h=>
  refine⟨rfl,?_,?_⟩<;>intro j
  ·intro u hj;rcases j with _|j<;>simp[Value.cells]at hj
   subst hj;rfl
  ·intro d u hd hj;rcases j with _|j<;>simp[D.cells,Value.cells]at hd hj
   subst hd;subst hj;exact .sl l b off cap sz hl hc hsz vals hv h
 |pt cs b off vals hv h=>
  refine⟨rfl,?_,?_⟩<;>intro j
  ·intro u hj;rcases j with _|j<;>simp[Value.cells]at hj
   subst hj;rfl
  ·intro d u hd hj;rcases j with _|j<;>simp[D.cells,Value.cells]at hd hj
   subst hd;subst hj;exact .pt cs b off vals hv h
 |fn f cs arr hsz h=>
  refine⟨rfl,?_,?_⟩<;>intro j
  ·intro u hj;rcases j with _|j<;>simp[Value.cells]at hj
   subst hj;rfl
  ·intro d u hd hj;rcases j with _|j<;>simp[D.cells,Value.cells]at hd hj
   subst hd;subst hj;exact .fn f cs arr hsz h
theorem PV.At.move {w w':World}{ι ι':Nat->Option Nat}{X:Nat->Prop}{p:PV}{v:Value}(h:PV.At w ι X p v)
  (h1:∀o b,ι o=some b->ι' o=some b/\bsz w' b=bsz w b)
  (h2:∀b,ownX ι' X b->ownX ι X b\/w.heap.size<=b)
  (h3:∀b,b<w.heap.size->¬ownX ι X b->w'.heap[b]? =w.heap[b]?):PV.At w' ι' X p v:=by
 induction h with
 |d x v h=>exact .d x v (h.mono h2 h3)
 |ref o sz off len cap capr b hι hl hc hm hs=>exact .ref o sz off len cap capr b (h1 o b hι).1 hl hc hm (hs.trans (h1 o b hι).2.symm)
 |ref0 o sz off base=>exact .ref0 o sz off base
 |ptr o sz i c b hι=>exact .ptr o sz i c b (h1 o b hι).1
 |nilS=>exact .nilS
 |z0 base=>exact .z0 base
 |ag cs arr hsz hone _ ih=>exact .ag cs arr hsz hone ih
 |tup cs arr hsz _ ih=>exact .tup cs arr hsz ih
 |fn f cs arr hsz _ ih=>exact .fn f cs arr hsz ih
 |unk v=>exact .unk v
 |und=>exact .und
 |ab b=>exact .ab b
 |mp o b hι=>exact .mp o b (h1 o b hι).1
 |ifp T o b hι=>exact .ifp T o b (h1 o b hι).1
theorem Ob.At.move {w w':World}{ι ι':Nat->Option Nat}{X:Nat->Prop}{o:Nat}{ob:Ob}(h:Ob.At w ι X o ob)
  (h0:ι' o=ι o)(hb:ob≠ .gone->∀b,ι o=some b->w'.heap[b]? =w.heap[b]?)
  (h1:∀o b,ι o=some b->ι' o=some b/\bsz w' b=bsz w b)
  (h2:∀b,ownX ι' X b->ownX ι X b\/w.heap.size<=b)
  (h3:∀b,b<w.heap.size->¬ownX ι X b->w'.heap[b]? =w.heap[b]?):Ob.At w' ι' X o ob:=by
 cases h with
 |dead h=>exact .dead (h0.trans h)
 |gone=>exact .gone
 |cells cs b c T hι hbb hsz hone h=>
  exact .cells cs b c T (h0.trans hι) ((hb (by simp) b hι).trans hbb) hsz hone λ j p v hj hv=>(h j p v hj hv).move h1 h2 h3
 |row0 sz h=>exact .row0 sz (h0.trans h)
 |row sz l b c T hι hbb hsz hcl hone h=>
  exact Ob.At.row (o:=o) (X:=X) sz l b c T (h0.trans hι) ((hb (by simp) b hι).trans hbb) hsz hcl hone λ i d j e v hi hj hv=>(h i d j e v hi hj hv).mono h2 h3
 |imap l b es clock hι hbb he=>exact .imap l b es clock (h0.trans hι) ((hb (by simp) b hι).trans hbb) he
 |iter m k sn b bm hι hm hbb=>exact .iter m k sn b bm (h0.trans hι) (h1 m bm hm).1 ((hb (by simp) b hι).trans hbb)
structure W0 extends World where
 ι0:Nat->Option Nat
 tabs:List (Nat×List Int)
def W0.of (w0:W0)(P:Program):W0:={w0 with tabs:=Go.PS.tabs P}
structure Frame0 (B:Nat->Prop)(w0:W0)(w:World):Prop where
 os:w.os=w0.os
 tape:w.tape=w0.tape
 output:w.output=w0.output
 size:w0.heap.size<=w.heap.size
 keep:∀b,B b->w.heap[b]? =w0.heap[b]?
structure Hold (B X:Nat->Prop)(w0:W0)(n:Nat)(S:St)(a:Act)(w:World)(ι:Nat->Option Nat):Prop where
 size:a.tmps.size=n
 defers:a.defers=[]
 frame:Frame0 B w0 w
 hB:∀b,B b->b<w0.heap.size
 hXB:(∀b,X b->B b)/\∀q,q∈w0.tabs->B q.1/\¬X q.1/\∀(j:Nat) v,q.2[j]? =some v->w0.toWorld.cell? ⟨q.1,j,none⟩=some (.int .u8 v)
 inj:∀o o' b,S.objs o≠ .gone->S.objs o'≠ .gone->ι o=some b->ι o'=some b->o=o'
 free:∀o b,ι o=some b->¬B b/\b<w.heap.size
 env:∀t,PV.At w ι X (S.env t) (a.tmps.getD t undef)
 objs:∀o,Ob.At w ι X o (S.objs o)
 stay:∀o b,w0.ι0 o=some b->(1000<=o/\o<2000)/\ι o=some b/\bsz w b=bsz w0.toWorld b
theorem Hold.hX {B X:Nat->Prop}{w0:W0}{n:Nat}{S:St}{a:Act}{w:World}{ι:Nat->Option Nat}(h:Hold B X w0 n S a w ι)(b:Nat)(hb:X b):b<w0.heap.size:=h.hB b (h.hXB.1 b hb)
theorem Hold.tabs {B X:Nat->Prop}{w0:W0}{n:Nat}{S:St}{a:Act}{w:World}{ι:Nat->Option Nat}(h:Hold B X w0 n S a w ι):ZdX w0.tabs w (ownX ι X):=by
 intro q hq;obtain⟨h1,h2,h3⟩:=h.hXB.2 q hq;refine⟨gB (h.hB _ h1) h.frame.size,?_,λ j v hj=>?_⟩
 ·rintro(hx|⟨o,ho⟩)
  ·exact h2 hx
  ·exact(h.free o _ ho).1 h1
 ·rw[World.cell?_of_block (w:=w0.toWorld) (a:=⟨q.1,j,none⟩) (h.frame.keep _ h1)];exact h3 j v hj
theorem ZdX.sub {T:List (Nat×List Int)}{w:World}{X X':Nat->Prop}(h:ZdX T w X)(hX:∀b,X' b->X b):ZdX T w X':=
 λ q hq=>⟨(h q hq).1,λ hx=>(h q hq).2.1 (hX _ hx),(h q hq).2.2⟩
theorem Hold.put {B X:Nat->Prop}{w0:W0}{n:Nat}{S:St}{a:Act}{w:World}{ι:Nat->Option Nat}(h:Hold B X w0 n S a w ι){dst:Option Nat}{x:PV}{v:Value}
  (hd:∀t,dst=some t->t<n)(hv:PV.At w ι X x v):Hold B X w0 n (S.put dst x) (a.put dst v) w ι:=by
 cases dst with
 |none=>exact h
 |some t=>
  refine⟨?_,h.defers,h.frame,h.hB,h.hXB,h.inj,h.free,λ u=>?_,h.objs,h.stay⟩
  ·simpa[Act.put]using h.size
  ·have ht:=hd t rfl;have hs:=h.size;by_cases hu:u=t
   ·subst hu;simp only[St.put,upd,if_true,Act.put,qG];rw[Ae (by omega)];exact hv
   ·have:=h.env u;simp only[St.put,upd,if_neg hu,Act.put,qG]at this|-;rw[zQ (by omega)];exact this
theorem ZcY (b off j:Nat):(⟨b,off,none⟩:Addr).add j=⟨b,off+j,none⟩:=by unfold Addr.add;split<;>simp_all
section types
variable {P:Program}{t:TypeId}
theorem Zut (h:(tyi P t).ok=true):∃i,P.info? t=some i:=by
 simp only[tyi,Program.underlying]at h;cases hi:P.info? t with
 |none=>rw[hi]at h;simp at h
 |some i=>exact⟨i,rfl⟩
theorem ZzB (h:(tyi P t).ok=true):∃d,P.underlying t=some d:=Option.isSome_iff_exists.1 h
theorem Zqy (h:(tyi P t).ok=true)(w:World):(sizeOf t).run P w= .ok (P.cellsOf t) w:=by
 obtain⟨i,hi⟩:=Zut h;simp[sizeOf,typeInfo,hi,Program.cellsOf]
theorem ZxD (h:(tyi P t).ok=true)(w:World):(isAgg t).run P w= .ok (tyi P t).agg w:=by
 obtain⟨d,hd⟩:=ZzB h;simp only[isAgg,Sem.run_bind,run_underlying hd,Result.andThen_ok,tyi,hd];cases d<;>rfl
theorem ZmX (h:(tyi P t).zok=true):∃i z,P.info? t=some i/\i.zero=some z/\z.cells.size=P.cellsOf t/\(∀v∈z.cells.toList,v.oneCell'=true)/\P.cellsOf t≠0/\(tyi P t).zero=z.cells.toList:=by
 simp only[tyi]at h|-;cases hi:P.info? t with
 |none=>rw[hi]at h;simp at h
 |some i=>
  rw[hi]at h;simp only at h|-;cases hz:i.zero with
  |none=>rw[hz]at h;simp at h
  |some z=>
   rw[hz]at h;rw[uO]at h;have h:=h.1;simp only[uO,zD,By,ne_eq]at h;refine⟨i,z,rfl,hz,h.1.1,λ v hv=>?_,h.2,rfl⟩;exact(jH.1 h.1.2) v (by simpa using hv)
theorem Zrt (h:(tyi P t).zok=true):(tyi P t).agg=false->(tyi P t).size=1:=by
 simp only[tyi]at h|-;cases hi:P.info? t with
 |none=>rw[hi]at h;simp at h
 |some i=>
  rw[hi]at h;simp only at h|-;cases hz:i.zero with
  |none=>rw[hz]at h;simp at h
  |some z=>
   rw[hz]at h;rw[uO,qY,zD]at h;intro ha;rcases h.2 with h2|h2
   ·exact h2
   ·rw[ha]at h2;cases h2
theorem ZuM (h:(tyi P t).kind=3):∃fs,P.underlying t=some (.struct fs):=by
 simp only[tyi]at h;cases hu:P.underlying t with
 |none=>rw[hu]at h;simp at h
 |some d=>rw[hu]at h;cases d<;>first|(simp at h;done)|(dsimp only at h;split at h<;>cases h;done)|exact⟨_,rfl⟩
theorem Zc6 (h:(tyi P t).kind=1):P.underlying t=some (.slice (tyi P t).elem):=by
 simp only[tyi]at h|-;cases hu:P.underlying t with
 |none=>rw[hu]at h;simp at h
 |some d=>rw[hu]at h;cases d<;>first|(simp at h;done)|(dsimp only at h;split at h<;>cases h;done)|rfl
theorem ZoX (h:(tyi P t).kind=2):P.underlying t=some (.array (tyi P t).len (tyi P t).elem):=by
 simp only[tyi]at h|-;cases hu:P.underlying t with
 |none=>rw[hu]at h;simp at h
 |some d=>rw[hu]at h;cases d<;>first|(simp at h;done)|(dsimp only at h;split at h<;>cases h;done)|rfl
theorem ZuN (h:(tyi P t).kind=6):P.underlying t=some .bool:=by
 simp only[tyi]at h|-;cases hu:P.underlying t with
 |none=>rw[hu]at h;simp at h
 |some d=>rw[hu]at h;cases d<;>first|(simp at h;done)|(dsimp only at h;split at h<;>cases h;done)|rfl
theorem ZjD (h:(tyi P t).kind=7):∃k e i,P.underlying t=some (.map k e)/\P.underlying k=some (.int .i64)/\P.info? e=some i/\i.zero=some (.int .i64 0):=by
 simp only[tyi]at h;cases hu:P.underlying t with
 |none=>rw[hu]at h;simp at h
 |some d=>
  rw[hu]at h;cases d<;>try (simp at h;done)
  rename_i k e;dsimp only at h;split at h
  ·rename_i hm;simp only[Zpi,uO]at hm;obtain⟨h1,h2⟩:=hm;split at h1
   ·rename_i hk;split at h2
    ·rename_i i hi;split at h2
     ·rename_i hz;exact⟨k,e,i,rfl,hk,hi,hz⟩
     ·cases h2
    ·cases h2
   ·cases h1
  ·cases h
theorem ZgV {u:TypeId}(h:P.cellsOf u≠0)(w:World):(sizeOf u).run P w= .ok (P.cellsOf u) w:=by
 cases hi:P.info? u with
 |none=>simp[Program.cellsOf,hi]at h
 |some i=>simp[sizeOf,typeInfo,hi,Program.cellsOf]
end types
theorem Zmj {P:Program}{w:World}{t:TypeId}{b off:Nat}(ok:(tyi P t).ok=true)(f:Nat->Value)
  (hf:∀j,j<(if(tyi P t).agg then P.cellsOf t else 1)->w.cell? ⟨b,off+j,none⟩=some (f j)):
  (loadVar t ⟨b,off,none⟩).run P w= .ok (if(tyi P t).agg then .agg ((List.range (P.cellsOf t)).map f).toArray else f 0) w:=by
 simp only[loadVar,Sem.run_bind,ZxD ok,Result.andThen_ok];cases ha:(tyi P t).agg with
 |true=>
  simp only[ha,if_true]at hf|-;have hl:=run_loadCells_list (P:=P) w ⟨b,off,none⟩ ((List.range (P.cellsOf t)).map f) (λ j v hj=>by
   rw[uI]at hj;rcases uF j (P.cellsOf t)with hlt|hge
   ·rw[qQ hlt]at hj;cases hj;rw[ZcY];exact hf j hlt
   ·rw[uP (by simpa using hge)]at hj;cases hj)
  simp only[uE,kS]at hl;simp only[Sem.run_bind,Zqy ok,Result.andThen_ok,hl,Sem.run_pure]
 |false=>
  simp only[ha,qB,jE]at hf|-;have:=hf 0 (by omega);simp only[gH]at this;simp[this]
section hold
variable {P:Program}{B X:Nat->Prop}{w0:W0}{w:World}{n:Nat}{S:St}{a:Act}{ι:Nat->Option Nat}
def ZaJ (P:Program)(B X:Nat->Prop)(w0:W0)(n:Nat)(o:Oper)(S':St)(a:Act)(w:World):Prop:=
 ∃v w' ι',((execOp a.eval o).run P w= .ok (.value v) w'\/((execOp a.eval o).run P w= .ok .skip w'/\v=undef))/\Hold B X w0 n S' (a.put o.dst v) w' ι'
theorem ZaJ.wp {o:Oper}{S':St}{next:Act->World->Prop}{Q:Exit->Act->World->Prop}(h:ZaJ P B X w0 n o S' a w)
  (hk:∀a' w' ι',Hold B X w0 n S' a' w' ι'->next a' w'):o.wp P a w next Q:=by
 obtain⟨v,w',ι',h1,h2⟩:=h;unfold Oper.wp;rcases h1 with h1|⟨h1,rfl⟩
 ·rw[h1,Oper.upon_value];exact hk _ _ _ h2
 ·rw[h1,Oper.upon_skip];exact hk _ _ _ h2
theorem Hold.goes (h:Hold B X w0 n S a w ι){o:Oper}{x:PV}{v:Value}(hd:∀t,o.dst=some t->t<n)
  (hr:(execOp a.eval o).run P w= .ok (.value v) w)(hv:PV.At w ι X x v):ZaJ P B X w0 n o (S.put o.dst x) a w:=
 ⟨v,w,ι, .inl hr,h.put hd hv⟩
def Zax :Operand->Bool
 | .const (.agg cs)=>cs.all (·.oneCell')
 | .const v=>v.oneCell'
 |_=>true
theorem Zjl {v:Value}(h:v.oneCell'=true):PV.At w ι X (ZeN v) v:=by
 unfold ZeN;split
 ·exact .nilS
 ·exact .d _ _ (.sc v h)
theorem Hold.ev (h:Hold B X w0 n S a w ι){x:Operand}(hx:Zax x=true):PV.At w ι X (S.ev x) (a.eval x):=by
 cases x with
 |tmp t=>exact h.env t
 |global g=>exact .unk _
 |func f=>exact .d _ _ (.fn f [] #[] rfl (λ j d v hj=>by simp at hj))
 |const v=>
  simp only[St.ev,Act.eval];cases v with
  |agg cs=>
   simp only[Zax]at hx;refine .ag _ cs (by simp) (λ j v hj=>?_) (λ j d v hd hj=>?_)
   ·exact(jH.1 hx) v (gQ hj)
   ·rw[uI,qM,hj]at hd;cases hd;exact Zjl ((jH.1 hx) v (gQ hj))
  |_=>exact Zjl (by simpa[Zax]using hx)
theorem PV.At.cells {p:PV}{v:Value}{cs:List PV}(h:PV.At w ι X p v)(hc:p.cells?=some cs):
  v.cells.size=cs.length/\(∀(j:Nat) (u:Value),v.cells[j]? =some u->u.oneCell'=true)/\∀(j:Nat) q u,cs[j]? =some q->v.cells[j]? =some u->PV.At w ι X q u:=by
 have one:∀{p:PV} {v:Value},PV.At w ι X p v->v.oneCell'=true->v.cells=#[v]->
   v.cells.size=[p].length/\(∀(j:Nat) (u:Value),v.cells[j]? =some u->u.oneCell'=true)/\∀(j:Nat) q u,[p][j]? =some q->v.cells[j]? =some u->PV.At w ι X q u:=by
  intro p v hp h1 h2;rw[h2];refine⟨rfl,?_,?_⟩
  ·intro j u hj;rcases j with _|j<;>simp at hj
   subst hj;exact h1
  ·intro j q u hq hj;rcases j with _|j<;>simp at hq hj
   subst hq;subst hj;exact hp
 cases h with
 |d x v h=>
  have ht:∀l,x≠ .tup l:=by rintro l rfl;simp[PV.cells?]at hc
  obtain⟨h1,h2,h3⟩:=h.cells ht;have:cs=x.cells.map .d:=by cases x<;>simp[PV.cells?]at hc<;>first|exact hc.symm|skip
  subst this;refine⟨by simpa using h1,h2,λ j q u hq hu=>?_⟩;rw[uI]at hq;cases hj:x.cells[j]? with
  |none=>rw[hj]at hq;cases hq
  |some d=>rw[hj]at hq;cases hq;exact .d _ _ (h3 j d u hj hu)
 |ag cs' arr hsz hone h=>cases hc;exact⟨hsz,hone,h⟩
 |tup=>cases hc
 |unk=>cases hc
 |und=>cases hc
 |ab=>cases hc
 |ref o sz off len cap capr b hι hl hc' hm hs=>cases hc;exact one (.ref o sz off len cap capr b hι hl hc' hm hs) rfl rfl
 |ref0 o sz off base=>cases hc;exact one (.ref0 o sz off base) rfl rfl
 |ptr o sz i c b hι=>cases hc;exact one (.ptr o sz i c b hι) rfl rfl
 |nilS=>cases hc;exact one .nilS rfl rfl
 |z0 base=>cases hc;exact one (.z0 base) rfl rfl
 |mp o b hι=>cases hc;exact one (.mp o b hι) rfl rfl
 |ifp T o b hι=>cases hc;exact one (.ifp T o b hι) rfl rfl
 |fn f cs' arr hsz h=>cases hc;exact one (.fn f cs' arr hsz h) rfl rfl
theorem Hold.change (h:Hold B X w0 n S a w ι)(ch:Option Nat)(o:Nat)(ob:Ob)(ι':Nat->Option Nat)(w':World)
  (hos:w'.os=w.os)(htape:w'.tape=w.tape)(hout:w'.output=w.output)(hsize:w.heap.size<=w'.heap.size)
  (hι:∀o',o'≠o->ι' o'=ι o')
  (hsame:∀b,ι o=some b->ι' o=some b)
  (hch:∀b,ch=some b->(∃o',ι o'=some b)/\(∀o',o'≠o->S.objs o'≠ .gone->ι o'≠some b)/\bsz w' b=bsz w b)
  (hkeep:∀b,b<w.heap.size->ch≠some b->w'.heap[b]? =w.heap[b]?)
  (hown:∀b,ι' o=some b->((ι o=some b/\S.objs o≠ .gone)\/w.heap.size<=b\/((∃o',ι o'=some b)/\∀o',o'≠o->S.objs o'≠ .gone->ι o'≠some b))/\b<w'.heap.size)
  (hob:Ob.At w' ι' X o ob):
  Hold B X w0 n {env:=S.env,objs:=upd o ob S.objs} a w' ι':=by
 have h1:∀o' b,ι o'=some b->ι' o'=some b/\bsz w' b=bsz w b:=by
  intro o' b hb;refine⟨?_,?_⟩
  ·by_cases he:o'=o
   ·subst he;exact hsame b hb
   ·exact(hι o' he).trans hb
  ·by_cases hc:ch=some b
   ·exact(hch b hc).2.2
   ·simp only[bsz,hkeep b (h.free o' b hb).2 hc]
 have h2:∀b,ownX ι' X b->ownX ι X b\/w.heap.size<=b:=by
  rintro b (hb|⟨o',hb⟩)
  ·exact .inl (.inl hb)
  ·by_cases he:o'=o
   ·subst he;rcases(hown b hb).1 with h|h|h
    ·exact .inl (.inr ⟨_,h.1⟩)
    ·exact .inr h
    ·exact .inl (.inr h.1)
   ·exact .inl (.inr ⟨o',by rw[<-hι o' he];exact hb⟩)
 have h3:∀b,b<w.heap.size->¬ownX ι X b->w'.heap[b]? =w.heap[b]? :=λ b hb hn=>hkeep b hb (λ he=>hn (.inr (hch b he).1))
 refine⟨h.size,h.defers,⟨hos.trans h.frame.os,htape.trans h.frame.tape,hout.trans h.frame.output,gR h.frame.size hsize,λ b hb=>?_⟩,h.hB,h.hXB,?_,?_,?_,?_,?_⟩
 ·rw[<-h.frame.keep b hb];refine hkeep b (gB (h.hB b hb) h.frame.size) (λ he=>?_);obtain⟨o',ho'⟩:=(hch b he).1;exact(h.free o' b ho').1 hb
 ·intro o1 o2 b g1 g2 e1 e2;have aux:∀o2 b,o2≠o->S.objs o2≠ .gone->ι' o=some b->ι o2=some b->False:=by
   intro o2 b q2 g2 e1 e2;rcases(hown b e1).1 with hh|hh|hh
   ·exact q2 (h.inj _ _ b g2 hh.2 e2 hh.1)
   ·have:=(h.free o2 b e2).2;omega
   ·exact hh.2 o2 q2 g2 e2
  by_cases q1:o1=o<;>by_cases q2:o2=o
  ·rw[q1,q2]
  ·subst q1;rw[hι o2 q2]at e2;simp only[upd,if_neg q2]at g2;exact(aux o2 b q2 g2 e1 e2).elim
  ·subst q2;rw[hι o1 q1]at e1;simp only[upd,if_neg q1]at g1;exact(aux o1 b q1 g1 e2 e1).elim
  ·rw[hι o1 q1]at e1;rw[hι o2 q2]at e2;simp only[upd,if_neg q1]at g1;simp only[upd,if_neg q2]at g2;exact h.inj _ _ b g1 g2 e1 e2
 ·intro o' b hb;by_cases he:o'=o
  ·subst he;refine⟨λ hB=>?_,(hown b hb).2⟩;rcases(hown b hb).1 with hh|hh|hh
   ·exact(h.free _ b hh.1).1 hB
   ·have:=h.hB b hB;have:=h.frame.size;omega
   ·obtain⟨o2,h2⟩:=hh.1;exact(h.free o2 b h2).1 hB
  ·rw[hι o' he]at hb;exact⟨(h.free o' b hb).1,gB (h.free o' b hb).2 hsize⟩
 ·exact λ t=>(h.env t).move h1 h2 h3
 ·intro o';by_cases he:o'=o
  ·subst he;simp only[upd,if_true];exact hob
  ·simp only[upd,if_neg he];exact(h.objs o').move (hι o' he) (λ hg b hb=>hkeep b (h.free o' b hb).2 (λ hc=>(hch b hc).2.1 o' he hg hb)) h1 h2 h3
 ·intro o' b hb;obtain⟨g1,g2,g3⟩:=h.stay o' b hb;obtain⟨g4,g5⟩:=h1 o' b g2;exact⟨g1,g4,g5.trans g3⟩
theorem Hold.gone (h:Hold B X w0 n S a w ι)(o:Nat):Hold B X w0 n {env:=S.env,objs:=upd o .gone S.objs} a w ι:=by
 refine⟨h.size,h.defers,h.frame,h.hB,h.hXB,λ o1 o2 b g1 g2 e1 e2=>?_,h.free,h.env,λ o'=>?_,h.stay⟩
 ·have q1:o1≠o:=λ he=>g1 (by subst he;exact if_pos rfl)
  have q2:o2≠o:=λ he=>g2 (by subst he;exact if_pos rfl)
  simp only[upd,if_neg q1]at g1;simp only[upd,if_neg q2]at g2;exact h.inj _ _ b g1 g2 e1 e2
 ·by_cases he:o'=o
  ·subst he;simp only[upd,if_true];exact .gone
  ·simp only[upd,if_neg he];exact h.objs o'
end hold
section hold
variable {P:Program}{B X:Nat->Prop}{w0:W0}{w:World}{n:Nat}{S:St}{a:Act}{ι:Nat->Option Nat}
theorem D.At.single {x:D}{v:Value}{Y:Nat->Prop}(h:D.At w Y x v)(h1:v.oneCell'=true):x.cells=[x]:=by
 cases h<;>first|rfl|(simp[Value.oneCell']at h1)
theorem ZcB {b o:Nat}{c:Array Value}{T:TypeId}{fr:Nat×Nat}(hb:w.heap[b]? =some (.cells c T fr)):w.cell? ⟨b,o,none⟩=c[o]? :=by
 simp[World.cell?,hb]
theorem Zu7 {T:TypeId}{cs:List D}{va:Value}(hp:D.At w (ownX ι X) (.pt cs) va)(hok:(tyi P T).ok=true)(hc:(ldD (tyi P T) cs).1):
  ∃v,(Instr.loadAt T va).run P w= .ok v w/\D.At w (ownX ι X) (ldD (tyi P T) cs).2 v:=by
 cases hp with
 |pt cs b off vals hv h=>
  have hsz:((tyi P T).agg=true->P.cellsOf T<=cs.length)/\((tyi P T).agg=false->∃x r,cs=x::r):=by
   unfold ldD at hc;cases ha:(tyi P T).agg with
   |true=>simp only[ha,if_true]at hc;exact⟨λ _=>hc,(λ h=>by cases h)⟩
   |false=>
    simp only[ha,qB,jE]at hc;refine⟨(λ h=>by cases h),λ _=>?_⟩;cases cs with
    |nil=>simp at hc
    |cons x r=>exact⟨x,r,rfl⟩
  have hrun:=Zmj (P:=P) (w:=w) (t:=T) (b:=b) (off:=off) hok vals (λ j hj=>by
   have:j<cs.length:=by
    cases ha:(tyi P T).agg with
    |true=>rw[ha]at hj;simp at hj;have:=hsz.1 ha;omega
    |false=>rw[ha]at hj;simp at hj;obtain⟨x,r,rfl⟩:=hsz.2 ha;simp;omega
   exact(hv j _ (uL this)).1)
  refine⟨_,by simp only[Instr.loadAt,Instr.sureAddr,Sem.run_bind,Sem.run_pure,Result.andThen_ok];exact hrun,?_⟩;unfold ldD;cases ha:(tyi P T).agg with
  |true=>
   have hs:=hsz.1 ha;simp only[if_true];have hg:∀(j:Nat) (v:Value),((List.range (P.cellsOf T)).map vals).toArray[j]? =some v->j<P.cellsOf T/\v=vals j:=by
    intro j v hj;rw[kH,uI]at hj;rcases uF j (P.cellsOf T)with hlt|hge
    ·rw[qQ hlt]at hj;cases hj;exact⟨hlt,rfl⟩
    ·rw[uP (by simpa using hge)]at hj;cases hj
   refine .ag _ _ (by simp[tyi];omega) (λ j v hj=>?_) (λ j d v hd hj=>?_)
   ·obtain⟨hlt,rfl⟩:=hg j v hj;exact(hv j _ (uL (by omega))).2.1
   ·obtain⟨hlt,rfl⟩:=hg j v hj;rw[qC]at hd;split at hd
    ·exact h j d hd
    ·cases hd
  |false=>
   obtain⟨x,r,rfl⟩:=hsz.2 ha;simp only[qB,jE];exact h 0 x rfl
theorem ZjH (hS:Hold B X w0 n S a w ι){T:TypeId}{o sz i c:Nat}{va:Value}(hp:PV.At w ι X (.ptr o sz i c) va)(hok:(tyi P T).ok=true)
  (hc:(Zev (tyi P T) (S.objs o) sz i c).1):∃v,(Instr.loadAt T va).run P w= .ok v w/\PV.At w ι X (Zev (tyi P T) (S.objs o) sz i c).2 v:=by
 cases hp with
 |ptr o sz i c b hι=>
  have hob:=hS.objs o;generalize S.objs o=ob at hob hc;cases hob with
  |dead h=>rw[h]at hι;cases hι
  |gone=>exact hc.elim
  |imap=>exact hc.elim
  |iter=>exact hc.elim
  |row0 sz' h=>rw[h]at hι;cases hι
  |cells cs b' arr T' hι' hb hsz hone h=>
   rw[hι]at hι';cases hι';simp only[Zev]at hc|-;generalize hq:i*sz+c=q at hc|-;have hcl:((tyi P T).agg=true->q+P.cellsOf T<=cs.length\/P.cellsOf T=0)/\((tyi P T).agg=false->∃x r,cs.drop q=x::r):=by
    unfold ldP at hc;cases ha:(tyi P T).agg with
    |true=>simp only[ha,if_true,qP]at hc;exact⟨λ _=>by simp[tyi]at hc;omega,(λ h=>by cases h)⟩
    |false=>
     simp only[ha,qB,jE]at hc;refine⟨(λ h=>by cases h),λ _=>?_⟩;cases hd:cs.drop q with
     |nil=>rw[hd]at hc;simp at hc
     |cons x r=>exact⟨x,r,rfl⟩
   have hrun:=Zmj (P:=P) (w:=w) (t:=T) (b:=b) (off:=q) hok (λ j=>arr.getD (q+j) undef) (λ j hj=>by
    have:q+j<arr.size:=by
     cases ha:(tyi P T).agg with
     |true=>rw[ha]at hj;simp at hj;have:=hcl.1 ha;omega
     |false=>
      rw[ha]at hj;simp at hj;obtain⟨x,r,hd⟩:=hcl.2 ha;have:=qW List.length hd;simp at this;omega
    rw[ZcB hb];simp[Array.getD,this])
   refine⟨_,by simp only[Instr.loadAt,Instr.sureAddr,Sem.run_bind,Sem.run_pure,Result.andThen_ok];exact hrun,?_⟩;unfold ldP;cases ha:(tyi P T).agg with
   |true=>
    have hs:=hcl.1 ha;simp only[if_true];have hg:∀(j:Nat) (v:Value),((List.range (P.cellsOf T)).map λ j=>arr.getD (q+j) undef).toArray[j]? =some v->j<P.cellsOf T/\arr[q+j]? =some v:=by
     intro j v hj;rw[kH,uI]at hj;rcases uF j (P.cellsOf T)with hlt|hge
     ·rw[qQ hlt]at hj;cases hj;have hlt2:q+j<arr.size:=by omega
      exact⟨hlt,by simp[Array.getD,hlt2]⟩
     ·rw[uP (by simpa using hge)]at hj;cases hj
    refine .ag _ _ (by simp[tyi];omega) (λ j v hj=>?_) (λ j d v hd hj=>?_)
    ·exact hone _ v (hg j v hj).2
    ·obtain⟨hlt,hv⟩:=hg j v hj;rw[qC]at hd;split at hd
     ·rw[qZ]at hd;exact h (q+j) d v hd hv
     ·cases hd
   |false=>
    obtain⟨x,r,hd⟩:=hcl.2 ha;simp only[qB,jE,hd];have h0:cs[q]? =some x:=by have:=qW (·[0]?) hd;simpa using this
    have hlt:q<arr.size:=by have:=(uB.1 h0).1;omega
    exact h q x _ h0 (by simp[Array.getD,hlt])
  |row sz' l b' arr T' hι' hb hsz hcl hone h=>
   rw[hι]at hι';cases hι';simp only[Zev]at hc|-;obtain⟨rfl,hi,hc⟩:=hc;have hli:l[i]? =some l[i]:=uL hi;simp only[hli,yQ]at hc|-;have hcs:l[i].cells.length=sz:=hcl _ (jN hi);have hroom:i*sz+sz<=arr.size:=by
    have:(i+1)*sz<=l.length*sz:=yF _ hi;rw[qE]at this;omega
   have hld:D.At w (ownX ι X) (.pt (l[i].cells.drop c)) (.pointer (some ⟨b,i*sz+c,none⟩))\/True:= .inr trivial;have hcl2:((tyi P T).agg=true->c+P.cellsOf T<=sz\/P.cellsOf T=0)/\((tyi P T).agg=false->∃x r,l[i].cells.drop c=x::r):=by
    unfold ldD at hc;cases ha:(tyi P T).agg with
    |true=>simp only[ha,if_true,qP]at hc;exact⟨λ _=>by simp[tyi]at hc;omega,(λ h=>by cases h)⟩
    |false=>
     simp only[ha,qB,jE]at hc;refine⟨(λ h=>by cases h),λ _=>?_⟩;cases hd:l[i].cells.drop c with
     |nil=>rw[hd]at hc;simp at hc
     |cons x r=>exact⟨x,r,rfl⟩
   have hrun:=Zmj (P:=P) (w:=w) (t:=T) (b:=b) (off:=i*sz+c) hok (λ j=>arr.getD (i*sz+c+j) undef) (λ j hj=>by
    have:i*sz+c+j<arr.size:=by
     cases ha:(tyi P T).agg with
     |true=>rw[ha]at hj;simp at hj;have:=hcl2.1 ha;omega
     |false=>
      rw[ha]at hj;simp at hj;obtain⟨x,r,hd⟩:=hcl2.2 ha;have:=qW List.length hd;simp at this;omega
    rw[ZcB hb];simp[Array.getD,this])
   refine⟨_,by simp only[Instr.loadAt,Instr.sureAddr,Sem.run_bind,Sem.run_pure,Result.andThen_ok];exact hrun, .d _ _ ?_⟩;unfold ldD;cases ha:(tyi P T).agg with
   |true=>
    have hs:=hcl2.1 ha;simp only[if_true];have hg:∀(j:Nat) (v:Value),((List.range (P.cellsOf T)).map λ j=>arr.getD (i*sz+c+j) undef).toArray[j]? =some v->j<P.cellsOf T/\arr[i*sz+c+j]? =some v:=by
     intro j v hj;rw[kH,uI]at hj;rcases uF j (P.cellsOf T)with hlt|hge
     ·rw[qQ hlt]at hj;cases hj;have hlt2:i*sz+c+j<arr.size:=by omega
      exact⟨hlt,by simp[Array.getD,hlt2]⟩
     ·rw[uP (by simpa using hge)]at hj;cases hj
    refine .ag _ _ (by simp[tyi];omega) (λ j v hj=>?_) (λ j d v hd hj=>?_)
    ·exact hone _ v (hg j v hj).2
    ·obtain⟨hlt,hv⟩:=hg j v hj;rw[qC]at hd;split at hd
     ·rw[qZ]at hd;rw[jL]at hv;exact h i _ (c+j) d v hli hd hv
     ·cases hd
   |false=>
    obtain⟨x,r,hd⟩:=hcl2.2 ha;simp only[qB,jE,hd];have h0:l[i].cells[c]? =some x:=by have:=qW (·[0]?) hd;simpa using this
    have hlt:i*sz+c<arr.size:=by have:=(uB.1 h0).1;omega
    exact h i _ c x _ hli h0 (by simp[Array.getD,hlt])
theorem Zym (hS:Hold B X w0 n S a w ι){dst:Option Nat}{T:TypeId}{x:Operand}{ty:TypeId}{pos:String}{af:Array Edge}{gd:Option (Nat×Bool)}(hd:∀t,dst=some t->t<n)(hx:Zax x=true)
  (hc:(Zcz (tyi P T) S.objs (S.ev x)).1):ZaJ P B X w0 n ⟨dst, .load T x,ty,pos,af,gd⟩ (S.app dst (Zcz (tyi P T) S.objs (S.ev x)).2) a w:=by
 have hp:=hS.ev hx;generalize S.ev x=p at hc hp;unfold Zcz at hc|-;split at hc
 ·obtain⟨hok,hc⟩:=hc;simp only;rw[ZaM];cases hp with
  |d _ _ hp=>
   obtain⟨v,hr,hv⟩:=Zu7 hp hok hc;exact hS.goes hd (by simp only[execOp,Sem.run_bind,hr,Result.andThen_ok,Sem.run_pure]) (.d _ _ hv)
 ·obtain⟨hok,hc⟩:=hc;simp only;rw[Zg5];obtain⟨v,hr,hv⟩:=ZjH hS hp hok hc;exact hS.goes hd (by simp only[execOp,Sem.run_bind,hr,Result.andThen_ok,Sem.run_pure]) hv
 ·exact hc.elim
end hold
section hold
variable {P:Program}{B X:Nat->Prop}{w0:W0}{w:World}{n:Nat}{S:St}{a:Act}{ι:Nat->Option Nat}{dst:Option Nat}{ty:TypeId}{pos:String}{af:Array Edge}{gd:Option (Nat×Bool)}
theorem Zys (hS:Hold B X w0 n S a w ι){x:Operand}(hd:∀t,dst=some t->t<n)(hx:Zax x=true):ZaJ P B X w0 n ⟨dst, .move x,ty,pos,af,gd⟩ (S.app dst (.v (S.ev x))) a w:=by
 rw[ZaM];exact hS.goes hd rfl (hS.ev hx)
theorem Zx6 (hS:Hold B X w0 n S a w ι){x:Operand}(hd:∀t,dst=some t->t<n)(hx:Zax x=true):ZaJ P B X w0 n ⟨dst, .assign x,ty,pos,af,gd⟩ (S.app dst (.v (S.ev x))) a w:=by
 rw[ZaM];exact hS.goes hd rfl (hS.ev hx)
theorem Zyu (hS:Hold B X w0 n S a w ι){c x y:Operand}(hd:∀t,dst=some t->t<n)(h0:Zax c=true)(hx:Zax x=true)(hy:Zax y=true)(hc:(Zgg (S.ev c) (S.ev x) (S.ev y)).1):
  ZaJ P B X w0 n ⟨dst, .pick c x y,ty,pos,af,gd⟩ (S.app dst (Zgg (S.ev c) (S.ev x) (S.ev y)).2) a w:=by
 have hp:=hS.ev h0;have hpx:=hS.ev hx;have hpy:=hS.ev hy;generalize S.ev c=p at hc hp;unfold Zgg at hc|-;split at hc
 ·rename_i t;simp only;rw[ZaM];cases hp with
  |d _ _ hp=>
   have e:a.eval c= .bool t:=by cases h:a.eval c<;>rw[h]at hp<;>cases hp;rfl
   cases t
   ·exact hS.goes hd (by simp[execOp,e,asBool]) hpy
   ·exact hS.goes hd (by simp[execOp,e,asBool]) hpx
 ·exact hc.elim
theorem Zyh (hS:Hold B X w0 n S a w ι){T:TypeId}{x:Operand}{f:Nat}(hd:∀t,dst=some t->t<n)(hx:Zax x=true)
  (hc:(Zf9 P (tyi P T) f (S.ev x)).1):ZaJ P B X w0 n ⟨dst, .fieldAddr T x f,ty,pos,af,gd⟩ (S.app dst (Zf9 P (tyi P T) f (S.ev x)).2) a w:=by
 have hp:=hS.ev hx;generalize S.ev x=p at hc hp;unfold Zf9 at hc|-;cases hf:(tyi P T).fields[f]? with
 |none=>rw[hf]at hc;exact hc.elim
 |some q=>
  obtain⟨off,ft⟩:=q;rw[hf]at hc;simp only at hc|-;have run:∀(b o:Nat),a.eval x= .pointer (some ⟨b,o,none⟩)->(tyi P T).kind=3->P.cellsOf ft≠0->
    (execOp a.eval ⟨dst, .fieldAddr T x f,ty,pos,af,gd⟩).run P w= .ok (.value (.pointer (some ⟨b,o+off,none⟩))) w:=by
   intro b o e hk hne;obtain⟨fs,hu⟩:=ZuM hk;have hff:∃fd,fs[f]? =some fd/\fd.offset=off/\fd.type=ft:=by
    simp only[tyi,hu]at hf;rw[uI,qM]at hf;cases hq:fs[f]? with
    |none=>rw[hq]at hf;cases hf
    |some fd=>rw[hq]at hf;cases hf;exact⟨fd,rfl,rfl,rfl⟩
   obtain⟨fd,hfd,rfl,rfl⟩:=hff;have hsz:=ZgV (P:=P) hne w;simp only[execOp,Instr.fieldAt,e,Sem.run_bind,run_underlying hu,Result.andThen_ok,hfd,Instr.sureAddr,Sem.run_pure,fieldPlace,hsz,hne,jE,ZcY]
  cases p with
  |d dd=>
   cases dd with
   |pt cs=>
    obtain⟨hk,hne⟩:=hc;simp only;rw[ZaM];cases hp with
    |d _ _ hp=>
     generalize hva:a.eval x=va at hp;cases hp with
     |pt cs b o vals hv h=>
      refine hS.goes hd (run b o hva hk hne) (.d _ _ ?_);refine .pt _ b (o+off) (λ j=>vals (off+j)) (λ j c hj=>?_) (λ j c hj=>?_)
      ·rw[qZ]at hj;have:=hv (off+j) c hj;rw[jL];exact this
      ·rw[qZ]at hj;exact h (off+j) c hj
   |_=>exact hc.elim
  |ptr o sz i c=>
   obtain⟨hk,hne⟩:=hc;simp only;rw[ZaM];generalize hva:a.eval x=va at hp;cases hp with
   |ptr o sz i c b hι=>
    refine hS.goes hd (run b _ hva hk hne) ?_;rw[jL];exact .ptr o sz i (c+off) b hι
  |_=>exact hc.elim
theorem Zsj {v:Value}{k:IntKind}{m:Int}(h:v= .int k m):(asIntOf v).run P w= .ok (k,m) w:=by subst h;rfl
theorem Zbc {v:Value}{m:Int}(h:PV.At w ι X (.d (.sc (.int .i64 m))) v):v= .int .i64 m:=by
 cases h with
 |d _ _ h=>cases h;rfl
theorem Zh3 {v:Value}{b:Bool}(h:PV.At w ι X (.d (.sc (.bool b))) v):v= .bool b:=by
 cases h with
 |d _ _ h=>cases h;rfl
theorem Zyk (hS:Hold B X w0 n S a w ι){T:TypeId}{x i:Operand}(hd:∀t,dst=some t->t<n)(hx:Zax x=true)(hi:Zax i=true)
  (hc:(Zgc (tyi P T) (P.cellsOf (tyi P T).elem) (S.ev x) (S.ev i)).1):ZaJ P B X w0 n ⟨dst, .indexAddr T x i,ty,pos,af,gd⟩ (S.app dst (Zgc (tyi P T) (P.cellsOf (tyi P T).elem) (S.ev x) (S.ev i)).2) a w:=by
 have hp:=hS.ev hx;have hq:=hS.ev hi;generalize S.ev x=p at hc hp;generalize S.ev i=q at hc hq;unfold Zgc at hc|-;split at hc
 ·rename_i l m;obtain⟨hk,hne,h0,hlt,hcl⟩:=hc;simp only;rw[ZaM];have hu:=Zc6 hk;have ei:=Zbc hq;have hsz':=ZgV (P:=P) (u:=(tyi P T).elem) hne w;generalize hva:a.eval x=va at hp;cases hp with
  |d _ _ hp=>
   have hli:l[m.toNat]? =some l[m.toNat]:=uL hlt;simp only[hli,yQ]at hcl|-;cases hp with
   |slnil=>simp at hlt
   |sl l b off cap sz hl hcap hsz vals hv h=>
    have hs:sz=P.cellsOf (tyi P T).elem:=by rw[<-hcl];exact(hsz _ (jN hlt)).symm
    refine hS.goes (v:= .pointer (some ⟨b,off+m.toNat*sz,none⟩)) hd ?_ (.d _ _ ?_)
    ·simp[execOp,Instr.indexAt,hva,ei,asIntOf,run_underlying hu,hsz',h0,hs,ZcY];omega
    ·exact .pt _ b _ (λ j=>vals m.toNat j) (λ j c hj=>hv m.toNat _ j c hli hj) (λ j c hj=>h m.toNat _ j c hli hj)
 ·rename_i o sz off len cap m;obtain⟨hk,hne,h0,hlt,hs⟩:=hc;simp only;rw[ZaM];have hu:=Zc6 hk;have ei:=Zbc hq;have hsz':=ZgV (P:=P) (u:=(tyi P T).elem) hne w;generalize hva:a.eval x=va at hp;cases hp with
  |ref0=>simp at hlt
  |ref o sz off len cap capr b hι hl hcc hm hss=>
   refine hS.goes (v:= .pointer (some ⟨b,(off+m.toNat)*sz+0,none⟩)) hd ?_ (.ptr o sz (off+m.toNat) 0 b hι);simp[execOp,Instr.indexAt,hva,ei,asIntOf,run_underlying hu,hsz',h0,hs,ZcY,qE];omega
 ·rename_i o sz i0 c m;obtain⟨hk,hne,h0,hlt⟩:=hc;simp only;rw[ZaM];have hu:=ZoX hk;have ei:=Zbc hq;have hsz':=ZgV (P:=P) (u:=(tyi P T).elem) hne w;generalize hva:a.eval x=va at hp;cases hp with
  |ptr o sz i c b hι=>
   refine hS.goes (v:= .pointer (some ⟨b,i0*sz+(c+m.toNat*P.cellsOf (tyi P T).elem),none⟩)) hd ?_ (.ptr o sz i0 (c+m.toNat*P.cellsOf (tyi P T).elem) b hι);have hm:m<(tyi P T).len:=by omega
   simp[execOp,Instr.indexAt,hva,ei,asIntOf,run_underlying hu,hsz',h0,hm,ZcY,Instr.sureAddr,jL]
 ·exact hc.elim
theorem ZyA (hS:Hold B X w0 n S a w ι){op:UnOp}{T:TypeId}{x:Operand}(hd:∀t,dst=some t->t<n)(hx:Zax x=true)
  (hc:(Zgi op (S.ev x)).1):ZaJ P B X w0 n ⟨dst, .unOp op T x,ty,pos,af,gd⟩ (S.app dst (Zgi op (S.ev x)).2) a w:=by
 have hp:=hS.ev hx;generalize S.ev x=p at hc hp;unfold Zgi at hc|-;split at hc
 ·simp only;rw[ZaM];exact hS.goes hd (by simp[execOp,Zh3 hp,Op.unary]) (.d _ _ (.sc _ rfl))
 ·simp only;rw[ZaM];obtain⟨b,e1⟩:∃b,a.eval x= .bool b:=by
   generalize a.eval x=v at hp;cases hp;exact⟨_,rfl⟩
  exact hS.goes hd (by simp[execOp,e1,Op.unary]) (.ab (!b))
 ·simp only;rw[ZaM];exact hS.goes hd (by simp[execOp,Zbc hp,Op.unary,Op.intArith]) (.d _ _ (.sc _ rfl))
 ·rename_i m;simp only;rw[ZaM];have e1:a.eval x= .int .u64 m:=by
   generalize a.eval x=v at hp;cases hp with
   |d _ _ h=>cases h;rfl
  exact hS.goes hd (by simp[execOp,e1,Op.unary,Op.intArith]) (.d _ _ (.sc _ rfl))
 ·exact hc.elim
theorem Zyt (hS:Hold B X w0 n S a w ι){x:Operand}(hd:∀t,dst=some t->t<n)(hx:Zax x=true)
  (hc:(Zgf (S.ev x)).1):ZaJ P B X w0 n ⟨dst, .nilCheck x,ty,pos,af,gd⟩ (S.app dst (Zgf (S.ev x)).2) a w:=by
 have hp:=hS.ev hx;generalize S.ev x=p at hc hp;unfold Zgf at hc|-;split at hc
 ·simp only;rw[ZaM];generalize hv:a.eval x=v at hp;cases hp with
  |d _ _ h=>
   cases h with
   |pt _ b off vals h1 h2=>exact hS.goes hd (v:= .pointer (some ⟨b,off,none⟩)) (by simp only[execOp,hv];rfl) (.d _ _ (.pt _ b off vals h1 h2))
 ·simp only;rw[ZaM];generalize hv:a.eval x=v at hp;cases hp with
  |ptr _ _ _ _ b hι=>exact hS.goes hd (v:= .pointer (some ⟨b,_,none⟩)) (by simp only[execOp,hv];rfl) (.ptr _ _ _ _ b hι)
 ·exact hc.elim
theorem Zyg (hS:Hold B X w0 n S a w ι){x:Operand}{i:Nat}(hd:∀t,dst=some t->t<n)(hx:Zax x=true)
  (hc:(Zf8 (S.ev x) i).1):ZaJ P B X w0 n ⟨dst, .extract x i,ty,pos,af,gd⟩ (S.app dst (Zf8 (S.ev x) i).2) a w:=by
 have hp:=hS.ev hx;generalize S.ev x=p at hc hp;unfold Zf8 at hc|-;split at hc
 ·rename_i vs;cases hi:vs[i]? with
  |none=>rw[hi]at hc;exact hc.elim
  |some d=>
   simp only;rw[ZaM];generalize hva:a.eval x=va at hp;cases hp with
   |tup cs arr hsz h=>
    have hlt:i<arr.size:=by have:=(uB.1 hi).1;omega
    have hai:arr[i]? =some arr[i]:=uT hlt;exact hS.goes hd (by simp[execOp,hva,Instr.extract,hai]) (h i d _ hi hai)
 ·rename_i vs;cases hi:vs[i]? with
  |none=>rw[hi]at hc;exact hc.elim
  |some d=>
   simp only;rw[ZaM];generalize hva:a.eval x=va at hp;cases hp with
   |d _ _ hp=>
    cases hp with
    |tup cs arr hsz h=>
     have hlt:i<arr.size:=by have:=(uB.1 hi).1;omega
     have hai:arr[i]? =some arr[i]:=uT hlt;exact hS.goes hd (by simp[execOp,hva,Instr.extract,hai]) (.d _ _ (h i d _ hi hai))
 ·exact hc.elim
end hold
section hold
variable {P:Program}{B X:Nat->Prop}{w0:W0}{w:World}{n:Nat}{S:St}{a:Act}{ι:Nat->Option Nat}{dst:Option Nat}{ty:TypeId}{pos:String}{af:Array Edge}{gd:Option (Nat×Bool)}
theorem ZkR {v:Value}{m:Int}{y:Nat}{code:BoundsCode}(hv:v= .int .i64 m)(h1:0<=m)(h2:m<=y):(Instr.sliceBound v y code).run P w= .ok m.toNat w:=by
 subst hv;simp[Instr.sliceBound,asIntOf,h1,h2]
theorem ZsD {len cap:Nat}{lo hi:Option Operand}{l h:Int}(hS:Hold B X w0 n S a w ι)(hlo:∀x,lo=some x->Zax x=true)(hhi:∀x,hi=some x->Zax x=true)
  (h1:Zd2 0 (lo.map S.ev)=some l)(h2:Zd2 len (hi.map S.ev)=some h)(h0:0<=l)(hlh:l<=h)(hhl:h<=len)(hlc:len<=cap):
  (Instr.sliceBounds true len cap (lo.map a.eval) (hi.map a.eval) none).run P w= .ok (l.toNat,h.toNat,cap) w:=by
 have e1:∀x,lo=some x->a.eval x= .int .i64 l:=by
  rintro x rfl;have:=hS.ev (hlo x rfl);simp only[yV]at h1;generalize S.ev x=p at h1 this;unfold Zd2 at h1;split at h1
  ·rename_i heq;cases heq
  ·rename_i heq;cases heq;cases h1;exact Zbc this
  ·cases h1
 have e2:∀x,hi=some x->a.eval x= .int .i64 h:=by
  rintro x rfl;have:=hS.ev (hhi x rfl);simp only[yV]at h2;generalize S.ev x=p at h2 this;unfold Zd2 at h2;split at h2
  ·rename_i heq;cases heq
  ·rename_i heq;cases heq;cases h2;exact Zbc this
  ·cases h2
 have rl:∀(c:BoundsCode) (x:Operand),lo=some x->(Instr.sliceBound (a.eval x) h.toNat c).run P w= .ok l.toNat w:=λ c x hx=>ZkR (e1 x hx) h0 (by omega)
 have rh:∀(c:BoundsCode) (x:Operand),hi=some x->(Instr.sliceBound (a.eval x) cap c).run P w= .ok h.toNat w:=λ c x hx=>ZkR (e2 x hx) (by omega) (by omega)
 cases lo with
 |none=>
  simp only[Aq,Zd2,uZ]at h1;cases hi with
  |none=>
   simp only[Aq,Zd2,uZ]at h2;simp[Instr.sliceBounds];omega
  |some y=>simp[Instr.sliceBounds,rh _ y rfl];omega
 |some x=>
  cases hi with
  |none=>
   simp only[Aq,Zd2,uZ]at h2;have:h.toNat=len:=by omega
   rw[this]at rl;simp[Instr.sliceBounds,rl _ x rfl];omega
  |some y=>simp[Instr.sliceBounds,rl _ x rfl,rh _ y rfl]
theorem Zyx (hS:Hold B X w0 n S a w ι){T:TypeId}{x:Operand}{lo hi mx:Option Operand}(hd:∀t,dst=some t->t<n)(hx:Zax x=true)
  (hlo:∀x,lo=some x->Zax x=true)(hhi:∀x,hi=some x->Zax x=true)(hmx:∀x,mx=some x->Zax x=true)
  (hc:(Zgh (tyi P T) (P.cellsOf (tyi P T).elem) (S.ev x) (lo.map S.ev) (hi.map S.ev) (mx.map S.ev)).1):
  ZaJ P B X w0 n ⟨dst, .slice T x lo hi mx,ty,pos,af,gd⟩ (S.app dst (Zgh (tyi P T) (P.cellsOf (tyi P T).elem) (S.ev x) (lo.map S.ev) (hi.map S.ev) (mx.map S.ev)).2) a w:=by
 have hp:=hS.ev hx;unfold Zgh at hc|-;split at hc
 case h_2=>exact hc.elim
 rename_i len l hlen hl;split at hc
 ·rename_i h hh hm;have hmn:mx=none:=by cases mx<;>first|rfl|cases hm
  subst hmn;obtain⟨hk,hne,h0,hlh,hhl,hok⟩:=hc;simp only[hlen,hl,hh,Aq];rw[ZaM];have hu:=Zc6 hk;have hsz':=ZgV (P:=P) (u:=(tyi P T).elem) hne w;have run:∀(base:Option Addr) (cap:Nat),a.eval x= .slice base len cap->len<=cap->
    (execOp a.eval ⟨dst, .slice T x lo hi none,ty,pos,af,gd⟩).run P w= .ok (.value (.slice (if cap=l.toNat then base else base.map (·.add (l.toNat*P.cellsOf (tyi P T).elem))) (h.toNat-l.toNat) (cap-l.toNat))) w:=by
   intro base cap hv hlc;have hb:=ZsD (P:=P) hS hlo hhi hl hh h0 hlh hhl hlc;simp[execOp,Instr.sliceAt,Instr.slice,run_underlying hu,hv,hb,hsz']
  generalize hva:a.eval x=va at hp;generalize S.ev x=p at hp hlen hok;cases hp with
  |d d0 _ hd0=>
   cases hd0 with
   |slnil base cap=>
    simp only[ZcO,uY,uZ]at hlen;subst hlen;have e1:l.toNat=0:=by omega
    have e2:h.toNat=0:=by omega
    refine hS.goes hd (run base cap hva (by omega)) ?_;rw[e1,e2];exact .d _ _ (.slnil _ _)
   |sl xs b off cap sz hl' hcap hsz vals hv hat=>
    simp only[ZcO,uZ]at hlen;subst hlen;refine hS.goes hd (run _ cap hva hl') ?_;by_cases he:l=h
    ·subst he;simp only[ZiT,gZ];rw[jZ (by simp;omega)];exact .d _ _ (.slnil _ _)
    ·have hcl:cap≠l.toNat:=by omega
     have hs:sz=P.cellsOf (tyi P T).elem:=by
      have h1:l.toNat<xs.length:=by omega
      rw[<-hok _ (jN h1)];exact(hsz _ (jN h1)).symm
     rw[if_neg hcl];simp only[ZiT,yV,ZcY];have hlen2:((xs.take h.toNat).drop l.toNat).length=h.toNat-l.toNat:=by simp;omega
     have hget:∀(i:Nat) d,((xs.take h.toNat).drop l.toNat)[i]? =some d->xs[l.toNat+i]? =some d:=by
      intro i d hi;rw[qZ,qC]at hi;split at hi
      ·exact hi
      ·cases hi
     have:=D.At.sl (w:=w) (X:=ownX ι X) ((xs.take h.toNat).drop l.toNat) b (off+l.toNat*sz) (cap-l.toNat) sz (by rw[hlen2];omega) (by omega)
      (λ d hd=>hsz d (qR (gS hd))) (λ i j=>vals (l.toNat+i) j)
      (λ i d j c hi hj=>by
       have:=hv (l.toNat+i) d j c (hget i d hi) hj;rw[show off+l.toNat*sz+i*sz+j=off+(l.toNat+i)*sz+j by rw[qE];omega];exact this)
      (λ i d j c hi hj=>hat (l.toNat+i) d j c (hget i d hi) hj)
     rw[hlen2]at this;rw[<-hs];exact .d _ _ this
   |_=>simp[ZcO]at hlen
  |ref o sz off len' cap capr b hι hl' hcc hm hss=>
   simp only[ZcO,uZ]at hlen;subst hlen;simp only[Zmv]at hok;refine hS.goes hd (run _ capr hva hl') ?_;simp only[ZiT];by_cases he:capr=l.toNat
   ·rw[if_pos he];have e1:h.toNat-l.toNat=0:=by omega
    have e2:cap-l.toNat=0:=by omega
    have e3:capr-l.toNat=0:=by omega
    rw[e1,e2,e3];exact .ref0 _ _ _ _
   ·rw[if_neg he];simp only[yV,ZcY];have:=PV.At.ref (w:=w) (X:=X) o sz (off+l.toNat) (h.toNat-l.toNat) (cap-l.toNat) (capr-l.toNat) b hι (by omega) (by omega) (by omega)
     (by rw[<-hss];congr 1;omega)
    rw[qE]at this;rw[<-hok];exact this
  |ref0 o sz off base=>
   simp only[ZcO,uZ]at hlen;subst hlen;have e1:l.toNat=0:=by omega
   have e2:h.toNat=0:=by omega
   refine hS.goes hd (run base 0 hva (by omega)) ?_;rw[e1,e2,if_pos rfl];exact .ref0 _ _ _ _
  |nilS=>
   simp only[ZcO,uZ]at hlen;subst hlen;have e1:l.toNat=0:=by omega
   have e2:h.toNat=0:=by omega
   refine hS.goes hd (run none 0 hva (by omega)) ?_;rw[e1,e2,if_pos rfl];exact .nilS
  |z0 base=>
   simp only[ZcO,uZ]at hlen;subst hlen;have e1:l.toNat=0:=by omega
   have e2:h.toNat=0:=by omega
   refine hS.goes hd (run base 0 hva (by omega)) ?_;rw[e1,e2,if_pos rfl];exact .z0 _
  |_=>simp[ZcO]at hlen
 ·rename_i h m hh hm;obtain⟨hk,hne,hhs,rfl,rfl,rfl⟩:=hc;simp only[hlen,hl,hh,hm];rw[ZaM];have hu:=Zc6 hk;have hsz':=ZgV (P:=P) (u:=(tyi P T).elem) hne w;cases mx with
  |none=>cases hm
  |some z=>
   cases hi with
   |none=>simp at hhs
   |some y=>
    simp only[yV,uZ]at hm hh;have ez:a.eval z= .int .i64 0:=by
     have:=hS.ev (hmx z rfl);rw[hm]at this;exact Zbc this
    have ey:a.eval y= .int .i64 0:=by
     have:=hS.ev (hhi y rfl);generalize S.ev y=p at hh this;unfold Zd2 at hh;split at hh
     ·rename_i heq;cases heq
     ·rename_i heq;cases heq;cases hh;exact Zbc this
     ·cases hh
    have el:∀x,lo=some x->a.eval x= .int .i64 0:=by
     rintro x rfl;have:=hS.ev (hlo x rfl);simp only[yV]at hl;generalize S.ev x=p at hl this;unfold Zd2 at hl;split at hl
     ·rename_i heq;cases heq
     ·rename_i heq;cases heq;cases hl;exact Zbc this
     ·cases hl
    have hsl:∃base len' cap,a.eval x= .slice base len' cap:=by
     generalize a.eval x=va at hp;generalize S.ev x=p at hp hlen;cases hp with
     |d _ _ h=>cases h<;>first|exact⟨_,_,_,rfl⟩|simp[ZcO]at hlen
     |ref=>exact⟨_,_,_,rfl⟩
     |ref0=>exact⟨_,_,_,rfl⟩
     |nilS=>exact⟨_,_,_,rfl⟩
     |z0=>exact⟨_,_,_,rfl⟩
     |_=>simp[ZcO]at hlen
    obtain⟨base,len',cap,hv⟩:=hsl;have b0:∀(y:Nat) (c:BoundsCode),(Instr.sliceBound (.int .i64 0) y c).run P w= .ok 0 w:=λ y c=>ZkR (m:=0) rfl (by omega) (by omega)
    refine hS.goes (v:= .slice base 0 0) hd ?_ (.z0 base);cases lo with
    |none=>simp[execOp,Instr.sliceAt,Instr.slice,Instr.sliceBounds,run_underlying hu,hv,ez,ey,b0,hsz']
    |some x'=>simp[execOp,Instr.sliceAt,Instr.slice,Instr.sliceBounds,run_underlying hu,hv,ez,ey,b0,hsz',el x' rfl]
 ·exact hc.elim
end hold
section hold
variable {P:Program}{B X:Nat->Prop}{w0:W0}{w:World}{n:Nat}{S:St}{a:Act}{ι:Nat->Option Nat}{dst:Option Nat}{ty:TypeId}{pos:String}{af:Array Edge}{gd:Option (Nat×Bool)}
theorem ZxB (op:BinOp)(t:TypeId)(x y:Operand)(p q:Int):(eqGuard op t x y (.int .i64 p) (.int .i64 q)).run P w= .ok () w:=by
 cases op<;>simp[eqGuard]
theorem Zqx (op:BinOp)(t:TypeId)(x y:Operand)(p q:Bool):(eqGuard op t x y (.bool p) (.bool q)).run P w= .ok () w:=by
 cases op<;>simp[eqGuard]
theorem Zxu (op:BinOp)(t:TypeId)(p q:Int)(hc:(Zd0 op p q).1):(binOp op t (.int .i64 p) (.int .i64 q)).run P w= .ok (Zd0 op p q).2 w:=by
 cases op
 case and=>rfl
 case or=>rfl
 case xor=>rfl
 case andNot=>rfl
 all_goals (simp[Zd0]at hc|-;simp[binOp,Op.intArith,Op.intDiv,Op.intCmp,Op.shift,IntKind.bits,hc])
 all_goals first
  |rfl
  |(intro h;exact absurd h (by omega))
  |(rw[gK];simp)
theorem ZxF (op:BinOp)(t:TypeId)(p q:Int)(ho:op= .shl\/op= .shr)(hc:(Zd0 op p q).1):(binOp op t (.int .i64 p) (.int .u64 q)).run P w= .ok (Zd0 op p q).2 w:=by
 rcases ho with rfl|rfl
 all_goals (simp[Zd0]at hc|-;simp[binOp,Op.shift,IntKind.bits])
 all_goals (intro h;exact absurd h (by omega))
theorem Zxv (op:BinOp)(t:TypeId)(p q:Int)(hc:(Zd1 op p q).1):(binOp op t (.int .u64 p) (.int .u64 q)).run P w= .ok (Zd1 op p q).2 w:=by
 cases op
 case and=>rfl
 case or=>rfl
 case xor=>rfl
 case andNot=>rfl
 case quo=>exact hc.elim
 case rem=>exact hc.elim
 all_goals (simp[Zd1]at hc|-;simp[binOp,Op.intArith,Op.intCmp,Op.shift,IntKind.bits,hc])
 all_goals first
  |rfl
  |(intro h;exact absurd h (by omega))
  |(rw[gK];simp)
theorem ZxE (op:BinOp)(t:TypeId)(p q:Int)(ho:op= .shl\/op= .shr)(hc:(Zd1 op p q).1):(binOp op t (.int .u64 p) (.int .i64 q)).run P w= .ok (Zd1 op p q).2 w:=by
 rcases ho with rfl|rfl
 all_goals (simp[Zd1]at hc|-;simp[binOp,Op.shift,IntKind.bits])
 all_goals (intro h;exact absurd h (by omega))
theorem Zmi (op:BinOp)(t:TypeId)(x y:Operand)(k j:IntKind)(p q:Int):(eqGuard op t x y (.int k p) (.int j q)).run P w= .ok () w:=by
 cases op<;>simp[eqGuard]
theorem ZnA (op:BinOp)(p q:Int):(Zd1 op p q).2.oneCell'=true:=by cases op<;>rfl
theorem ZfL {k:IntKind}{m:Int}{v:Value}(h:PV.At w ι X (.d (.sc (.int k m))) v):v= .int k m:=by
 cases h with
 |d _ _ h=>cases h;rfl
theorem Zh4 {s:ByteArray}{v:Value}(h:PV.At w ι X (.d (.sc (.string s))) v):v= .string s:=by
 cases h with
 |d _ _ h=>cases h;rfl
theorem Znz (op:BinOp)(p q:Int):(Zd0 op p q).2.oneCell'=true:=by cases op<;>rfl
theorem PV.At.agg {p:PV}{v:Value}{cs:List PV}(h:PV.At w ι X p v)(hc:p.agg?=some cs):
  ∃arr,v= .agg arr/\arr.size=cs.length/\∀(j:Nat) q u,cs[j]? =some q->arr[j]? =some u->PV.At w ι X q u:=by
 cases h with
 |ag cs' arr hsz hone h=>cases hc;exact⟨arr,rfl,hsz,h⟩
 |d x v h=>
  cases h with
  |ag cs' arr hsz hone h=>
   cases hc;refine⟨arr,rfl,by simpa using hsz,λ j q u hq hu=>?_⟩;rw[uI]at hq;cases hj:cs'[j]? with
   |none=>rw[hj]at hq;cases hq
   |some d=>rw[hj]at hq;cases hq;exact .d _ _ (h j d u hj hu)
  |_=>cases hc
 |_=>cases hc
theorem Zxz {xs ys:Array Value}{cs ds:List PV}(hx:xs.size=cs.length)(hy:ys.size=ds.length)
  (h1:∀(j:Nat) q u,cs[j]? =some q->xs[j]? =some u->PV.At w ι X q u)(h2:∀(j:Nat) q u,ds[j]? =some q->ys[j]? =some u->PV.At w ι X q u)(d:Nat):
  ∀(fs:List Field) (k:Nat) (t:Bool),ZiI P k fs=true->fs.length+k=cs.length->ZeQ (cs.drop k) (ds.drop k)=some t->
   (Op.eqFields (d+1) xs ys fs).run P w= .ok t w:=by
 intro fs
 induction fs with
 |nil=>
  intro k t _ hl he;have hk:cs.drop k=[]:=by apply jZ;simp at hl;omega
  rw[hk]at he;cases hd:ds.drop k with
  |nil=>rw[hd]at he;cases he;rfl
  |cons q r=>rw[hd]at he;simp[ZeQ]at he
 |cons f fs ih=>
  intro k t hp hl he;simp only[ZiI,uO,By,ne_eq,zD]at hp;obtain⟨⟨⟨hn,ho⟩,hu⟩,hp⟩:=hp;have hk:k<cs.length:=by simp at hl;omega
  have hck:cs.drop k=cs[k]::cs.drop (k+1):=gL hk;rw[hck]at he;cases hdd:ds.drop k with
  |nil=>
   rw[hdd]at he;cases hq:cs[k]<;>rw[hq]at he<;>simp[ZeQ]at he
  |cons q r=>
   have hkd:k<ds.length:=by
    have:=qW List.length hdd;simp at this;omega
   have hdk:ds.drop k=ds[k]::ds.drop (k+1):=gL hkd;rw[hdk]at he;have ha:=h1 k cs[k] xs[k] (uL hk) (uT (by omega));have hb:=h2 k ds[k] ys[k] (uL hkd) (uT (by omega));have hxk:xs[k]? =some xs[k]:=uT (by omega);have hyk:ys[k]? =some ys[k]:=uT (by omega);have hagg:(isAgg f.type).run P w= .ok false w:=by
    simp only[isAgg];cases hq:P.underlying f.type with
    |none=>rw[hq]at hu;cases hu
    |some dd=>
     rw[hq]at hu;simp only[Sem.run_bind,run_underlying hq,Result.andThen_ok];cases dd<;>simp at hu<;>rfl
   have px:(part f.type xs f.offset).run P w= .ok xs[k] w:=by simp[part,hagg,ho,hxk]
   have py:(part f.type ys f.offset).run P w= .ok ys[k] w:=by simp[part,hagg,ho,hyk]
   have core:∀(r1:Bool) (t':Bool),(Op.equalIn (d+1) f.type xs[k] ys[k]).run P w= .ok r1 w->ZeQ (cs.drop (k+1)) (ds.drop (k+1))=some t'->t=(r1&&t')->
     (Op.eqFields (d+1) xs ys (f::fs)).run P w= .ok t w:=by
    intro r1 t' hr he' ht;simp only[Op.eqFields,ne_eq,hn,not_false_eq_true,if_true,Sem.run_bind,px,py,Result.andThen_ok,hr];cases r1
    ·simp[ht]
    ·simp only[Bool.not_true,qB,jE];rw[ih (k+1) t' hp (by simp at hl|-;omega) he',ht];simp
   generalize cs[k]=pk at he ha;generalize ds[k]=qk at he hb;generalize xs[k]=xk at ha core;generalize ys[k]=yk at hb core;unfold ZeQ at he;split at he
   ·rename_i h;cases h
   ·rename_i p1 r1 p2 r2 e1 e2;cases e1;cases e2;cases hq:ZeQ (cs.drop (k+1)) (ds.drop (k+1))with
    |none=>rw[hq]at he;cases he
    |some t'=>
     rw[hq]at he;cases he;have:=Zbc ha;subst this;have:=Zbc hb;subst this;refine core _ t' ?_ hq rfl;cases hq2:P.underlying f.type with
     |none=>rw[hq2]at hu;cases hu
     |some dd=>
      rw[hq2]at hu;cases dd<;>simp at hu
      rw[run_equalIn_int w d f.type .i64 _ _ _ hq2]
      congr 1
   ·cases he
theorem Zwh {t:TypeId}(h:(tyi P t).peq=true):P.underlying t=some (.struct (P.fieldsOf t))/\ZiI P 0 (P.fieldsOf t).toList=true/\P.stoodInHeld t=false/\P.eqGuardType P.depth t=false/\(P.fieldsOf t).size=P.cellsOf t:=by
 simp only[tyi,Program.fieldsOf]at h|-;cases hu:P.underlying t with
 |none=>rw[hu]at h;simp at h
 |some d=>rw[hu]at h;cases d<;>simp at h|-;exact⟨h.1.1.1,h.1.1.2,h.1.2,h.2⟩
theorem ZxA (w:World)(d:Nat)(T:TypeId)(base:Option Addr)(len cap:Nat){e:TypeId}(hu:P.underlying T=some (.slice e)):
  (Op.equalIn (d+1) T (.slice base len cap) (.slice none 0 0)).run P w= .ok base.isNone w:=by
 cases base<;>simp[Op.equalIn,run_underlying hu]
theorem ZvB {p r:PV}{v:Value}(h:ZbN p=some r)(hp:PV.At w ι X p v):
  ∃base len cap,v= .slice base len cap/\PV.At w ι X r (.bool base.isNone)/\(r= .ab\/∃b,r= .bool b):=by
 cases hp with
 |nilS=>simp only[ZbN,uZ]at h;subst h;exact⟨_,_,_,rfl, .d _ _ (.sc _ rfl), .inr ⟨_,rfl⟩⟩
 |z0 base=>simp only[ZbN,uZ]at h;subst h;exact⟨_,_,_,rfl, .ab _, .inl rfl⟩
 |ref0 o sz off base=>simp only[ZbN,uZ,Bx,if_true]at h;subst h;exact⟨_,_,_,rfl, .ab _, .inl rfl⟩
 |ref o sz off len cap capr b hι hl hc hm hs=>
  simp only[ZbN,uZ]at h;split at h
  ·subst h;exact⟨_,_,_,rfl, .ab _, .inl rfl⟩
  ·subst h;exact⟨_,_,_,rfl, .d _ _ (.sc _ rfl), .inr ⟨_,rfl⟩⟩
 |d x v h'=>
  cases h' with
  |slnil base cap=>simp only[ZbN,uZ,List.isEmpty_nil,if_true]at h;subst h;exact⟨_,_,_,rfl, .ab _, .inl rfl⟩
  |sl l b off cap sz hl hc hsz vals hv hh=>
   simp only[ZbN,uZ]at h;split at h
   ·subst h;exact⟨_,_,_,rfl, .ab _, .inl rfl⟩
   ·subst h;exact⟨_,_,_,rfl, .d _ _ (.sc _ rfl), .inr ⟨_,rfl⟩⟩
  |sc v hv=>simp[ZbN]at h
  |ag=>simp[ZbN]at h
  |tup=>simp[ZbN]at h
  |pt=>simp[ZbN]at h
  |fn=>simp[ZbN]at h
 |ptr=>simp[ZbN]at h
 |ag=>simp[ZbN]at h
 |tup=>simp[ZbN]at h
 |fn=>simp[ZbN]at h
 |unk=>simp[ZbN]at h
 |und=>simp[ZbN]at h
 |ab=>simp[ZbN]at h
 |mp=>simp[ZbN]at h
 |ifp=>simp[ZbN]at h
theorem ZvL {r:PV}{b:Bool}(h:PV.At w ι X r (.bool b))(hsh:r= .ab\/∃b,r= .bool b):PV.At w ι X (ZlN r) (.bool (!b)):=by
 rcases hsh with rfl|⟨c,rfl⟩
 ·exact .ab _
 ·cases h with
  |d _ _ h=>cases h;exact .d _ _ (.sc _ rfl)
theorem Zxw (op:BinOp)(t:TypeId)(p q:Int)(hc:(Zg7 op p q).1):(binOp op t (.int .u8 p) (.int .u8 q)).run P w= .ok (.bool (Zg7 op p q).2) w:=by
 cases op<;>first|exact hc.elim|rfl|(simp[binOp,Op.intCmp,Zg7];done)
theorem ZqV (a b:ByteArray):(a.toList==b.toList)=decide (a=b):=by
 rw[ByteArray.toList_eq,ByteArray.toList_eq,gK,zD,uG];refine⟨λ h=>?_,λ h=>by rw[h]⟩;obtain⟨⟨x⟩⟩:=a;obtain⟨⟨y⟩⟩:=b;simp only at h;rw[h]
theorem Zx7 (hS:Hold B X w0 n S a w ι){op:BinOp}{T T':TypeId}{x y:Operand}(hd:∀t,dst=some t->t<n)(hx:Zax x=true)(hy:Zax y=true)
  (hc:(Zf5 op (tyi P T) (S.ev x) (S.ev y)).1):ZaJ P B X w0 n ⟨dst, .binOp op T x y T',ty,pos,af,gd⟩ (S.app dst (Zf5 op (tyi P T) (S.ev x) (S.ev y)).2) a w:=by
 have hp:=hS.ev hx;have hq:=hS.ev hy;generalize S.ev x=p at hc hp;generalize S.ev y=q at hc hq;unfold Zf5 at hc|-;split at hc
 ·cases hn:ZbN p with
  |none=>rw[hn]at hc;exact hc.elim
  |some r=>
   rw[hn]at hc;obtain⟨hk,ho⟩:=hc;simp only;rw[ZaM];obtain⟨base,len,cap,e1,hr,hsh⟩:=ZvB hn hp;have e2:a.eval y= .slice none 0 0:=by
    generalize a.eval y=v at hq;cases hq;rfl
   have he:=ZxA (P:=P) w 9999 T base len cap (Zc6 hk);have hg:(eqGuard op T x y (.slice base len cap) (.slice none 0 0)).run P w= .ok () w:=by rcases ho with rfl|rfl<;>simp[eqGuard]
   rcases ho with rfl|rfl
   ·refine hS.goes (v:= .bool base.isNone) hd ?_ (by simpa using hr);simp[execOp,e1,e2,hg,binOp,Op.equal,Op.maxDepth,he]
   ·refine hS.goes (v:= .bool (!base.isNone)) hd ?_ (by simpa using ZvL hr hsh);simp[execOp,e1,e2,hg,binOp,Op.equal,Op.maxDepth,he]
 ·rename_i m k;simp only;rw[ZaM];have e1:=Zbc hp;have e2:=Zbc hq;exact hS.goes hd (by simp only[execOp,e1,e2,Sem.run_bind,ZxB,Result.andThen_ok,Zxu op T m k hc,Sem.run_pure]) (.d _ _ (.sc _ (Znz op m k)))
 ·rename_i m k;obtain⟨ho,hc⟩:=hc;simp only;rw[ZaM];have e1:=Zbc hp;have e2:a.eval y= .int .u64 k:=by
   generalize a.eval y=v at hq;cases hq with
   |d _ _ h=>cases h;rfl
  have hg:(eqGuard op T x y (.int .i64 m) (.int .u64 k)).run P w= .ok () w:=by rcases ho with rfl|rfl<;>simp[eqGuard]
  exact hS.goes hd (by simp only[execOp,e1,e2,Sem.run_bind,hg,Result.andThen_ok,ZxF op T m k ho hc,Sem.run_pure]) (.d _ _ (.sc _ (Znz op m k)))
 ·rename_i m k;simp only;rw[ZaM];have e1:=ZfL hp;have e2:=ZfL hq;exact hS.goes hd (by simp only[execOp,e1,e2,Sem.run_bind,Zmi,Result.andThen_ok,Zxv op T m k hc,Sem.run_pure]) (.d _ _ (.sc _ (ZnA op m k)))
 ·rename_i m k;obtain⟨ho,hc⟩:=hc;simp only;rw[ZaM];have e1:=ZfL hp;have e2:=ZfL hq;exact hS.goes hd (by simp only[execOp,e1,e2,Sem.run_bind,Zmi,Result.andThen_ok,ZxE op T m k ho hc,Sem.run_pure]) (.d _ _ (.sc _ (ZnA op m k)))
 ·rename_i m k;obtain⟨hk,ho⟩:=hc;simp only;rw[ZaM];have e1:=Zh3 hp;have e2:=Zh3 hq;have hu:=ZuN hk;have he:=run_equalIn_bool' (P:=P) w 9999 T m k hu;rw[show(m==k)=decide (m=k) by cases m<;>cases k<;>rfl]at he;rcases ho with rfl|rfl
  ·refine hS.goes (v:= .bool (decide (m=k))) hd ?_ (.d _ _ (.sc _ rfl));simp[execOp,e1,e2,Zqx,binOp,Op.equal,Op.maxDepth,he]
  ·refine hS.goes (v:= .bool (!decide (m=k))) hd ?_ (.d _ _ (.sc _ rfl));simp[execOp,e1,e2,Zqx,binOp,Op.equal,Op.maxDepth,he]
 ·rename_i m k;simp only;rw[ZaM];have e1:=ZfL hp;have e2:=ZfL hq;exact hS.goes hd (by simp only[execOp,e1,e2,Sem.run_bind,Zmi,Result.andThen_ok,Zxw op T m k hc,Sem.run_pure]) (.d _ _ (.sc _ rfl))
 ·rename_i m k;simp only;rw[ZaM];have e1:=Zh4 hp;have e2:=Zh4 hq;rcases hc with rfl|rfl
  ·refine hS.goes (v:= .bool (decide (m=k))) hd ?_ (.d _ _ (.sc _ rfl));simp[execOp,e1,e2,eqGuard,binOp,Op.stringOp,ZqV]
  ·refine hS.goes (v:= .bool (!decide (m=k))) hd ?_ (.d _ _ (.sc _ rfl));simp[execOp,e1,e2,eqGuard,binOp,Op.stringOp,ZqV]
 ·cases hcs:p.agg? with
  |none=>rw[hcs]at hc;exact hc.elim
  |some cs=>
   cases hds:q.agg? with
   |none=>rw[hcs,hds]at hc;exact hc.elim
   |some ds=>
    rw[hcs,hds]at hc;simp only at hc|-;cases ht:ZeQ cs ds with
    |none=>rw[ht]at hc;exact hc.elim
    |some t=>
     rw[ht]at hc;obtain⟨hpe,hln,ho⟩:=hc;simp only;rw[ZaM];obtain⟨xs,e1,hxs,h1⟩:=hp.agg hcs;obtain⟨ys,e2,hys,h2⟩:=hq.agg hds;obtain⟨hu,hpf,hst,hg,hsz⟩:=Zwh hpe;have hr:=Zxz (P:=P) hxs hys h1 h2 9998 (P.fieldsOf T).toList 0 t hpf (by simp only[tyi]at hln;simp;omega) (by simpa using ht);have he:=run_equalIn_struct (P:=P) w 9999 T xs ys hu hst;rw[hr]at he;rcases ho with rfl|rfl
     ·refine hS.goes (v:= .bool t) hd ?_ (.d _ _ (.sc _ rfl));simp[execOp,e1,e2,run_eqGuard_agg w _ T _ _ xs ys hg,binOp,Op.equal,Op.maxDepth,he]
     ·refine hS.goes (v:= .bool (!t)) hd ?_ (.d _ _ (.sc _ rfl));simp[execOp,e1,e2,run_eqGuard_agg w _ T _ _ xs ys hg,binOp,Op.equal,Op.maxDepth,he]
end hold
section hold
variable {P:Program}{B X:Nat->Prop}{w0:W0}{w:World}{n:Nat}{S:St}{a:Act}{ι:Nat->Option Nat}{dst:Option Nat}{ty:TypeId}{pos:String}{af:Array Edge}{gd:Option (Nat×Bool)}
theorem Hold.dead (h:Hold B X w0 n S a w ι){t:Nat}(hd:S.objs t= .dead):ι t=none:=by
 have:=h.objs t;rw[hd]at this;cases this;assumption
theorem Hold.alloc (h:Hold B X w0 n S a w ι){t:Nat}(hd:S.objs t= .dead)(w':World)(hos:w'.os=w.os)(htape:w'.tape=w.tape)(hout:w'.output=w.output)
  (hsize:w'.heap.size=w.heap.size+1)(hold:∀b,b<w.heap.size->w'.heap[b]? =w.heap[b]?)(ob:Ob)
  (hob:Ob.At w' (upd t (some w.heap.size) ι) X t ob):
  Hold B X w0 n {env:=S.env,objs:=upd t ob S.objs} a w' (upd t (some w.heap.size) ι):=
 h.change none t ob (upd t (some w.heap.size) ι) w' hos htape hout (by omega) (λ o' hne=>if_neg hne) (λ b hb=>by rw[h.dead hd]at hb;cases hb) (λ b hb=>by cases hb) (λ b hb _=>hold b hb)
  (λ b hb=>by rw[upd,if_pos rfl]at hb;cases hb;exact⟨.inr (.inl (uH _)),by omega⟩) hob
theorem PV.At.alloc (h:Hold B X w0 n S a w ι){t:Nat}(hd:S.objs t= .dead){w':World}
  (hold:∀b,b<w.heap.size->w'.heap[b]? =w.heap[b]?){p:PV}{v:Value}(hp:PV.At w ι X p v):PV.At w' (upd t (some w.heap.size) ι) X p v:=by
 have hn:=h.dead hd;refine hp.move (λ o b hb=>?_) (λ b hb=>?_) (λ b hb _=>hold b hb)
 ·have hne:o≠t:=λ he=>by rw[he,hn]at hb;cases hb
  exact⟨by rw[upd,if_neg hne];exact hb,by simp only[bsz,hold b (h.free o b hb).2]⟩
 ·rcases hb with hb|⟨o,hb⟩
  ·exact .inl (.inl hb)
  ·by_cases he:o=t
   ·subst he;rw[upd,if_pos rfl]at hb;cases hb;exact .inr (uH _)
   ·rw[upd,if_neg he]at hb;exact .inl (.inr ⟨o,hb⟩)
theorem D.At.alloc (h:Hold B X w0 n S a w ι){t:Nat}(hd:S.objs t= .dead){w':World}
  (hold:∀b,b<w.heap.size->w'.heap[b]? =w.heap[b]?){p:D}{v:Value}(hp:D.At w (ownX ι X) p v):D.At w' (ownX (upd t (some w.heap.size) ι) X) p v:=by
 have:=PV.At.alloc h hd hold (.d _ _ hp);cases this;assumption
theorem ZoE (hS:Hold B X w0 n S a w ι){t:Nat}{o:Oper}(hdst:o.dst=some t)(ht:t<n)(hd:S.objs t= .dead)(cs:List PV)(arr:Array Value)(T:TypeId)
  (hr:(execOp a.eval o).run P w= .ok (.value (.pointer (some ⟨w.heap.size,0,none⟩))) (w.alloc (.cells arr T)))
  (hsz:arr.size=cs.length)(hone:∀(j:Nat) (v:Value),arr[j]? =some v->v.oneCell'=true)(hat:∀(j:Nat) p v,cs[j]? =some p->arr[j]? =some v->PV.At w ι X p v):
  ZaJ P B X w0 n o (S.app o.dst {val:= .ptr t 0 0 0,wr:=[(t, .cells cs)]}) a w:=by
 have hold:∀b,b<w.heap.size->(w.alloc (.cells arr T)).heap[b]? =w.heap[b]? :=λ b hb=>heap_alloc_old w _ hb
 have hob:Ob.At (w.alloc (.cells arr T)) (upd t (some w.heap.size) ι) X t (.cells cs):=
  .cells cs w.heap.size arr T (if_pos rfl) (heap_alloc_new w _) (Nat.le_of_eq hsz.symm) hone λ j p v hj hv=>(hat j p v hj hv).alloc hS hd hold
 have h1:=hS.alloc hd (w.alloc (.cells arr T)) rfl rfl rfl (by simp) hold _ hob;refine⟨_,_,upd t (some w.heap.size) ι, .inl hr,?_⟩;have h2:=h1.put (dst:=o.dst) (x:= .ptr t 0 0 0) (v:= .pointer (some ⟨w.heap.size,0*0+0,none⟩)) (λ u hu=>by rw[hdst]at hu;cases hu;exact ht)
  (.ptr t 0 0 0 w.heap.size (if_pos rfl))
 rw[hdst]at h2|-;exact h2
theorem Zx2 (hS:Hold B X w0 n S a w ι){T:TypeId}(hd:∀t,dst=some t->t<n)(hc:(Zfw (tyi P T) S.objs dst).1):
  ZaJ P B X w0 n ⟨dst, .alloc T,ty,pos,af,gd⟩ (S.app dst (Zfw (tyi P T) S.objs dst).2) a w:=by
 unfold Zfw at hc|-;cases dst with
 |none=>exact hc.elim
 |some t=>
  obtain⟨hz,hdead⟩:=hc;obtain⟨i,z,hi,hiz,hzs,hz1,hne,hzz⟩:=ZmX hz;refine ZoE (P:=P) (o:=⟨some t, .alloc T,ty,pos,af,gd⟩) hS rfl (hd t rfl) hdead _ z.cells T ?_ (by simp[hzz]) (λ j v hj=>?_) (λ j p v hj hv=>?_)
  ·simp[execOp,Instr.alloc,zeroValue,typeInfo,hi,hiz,newVar,newRow]
  ·exact hz1 v (by simpa using gQ hj)
  ·rw[hzz,uI,qM,hv]at hj;cases hj;exact Zjl (hz1 v (by simpa using gQ hv))
theorem Zx8 (hS:Hold B X w0 n S a w ι){T:TypeId}{x:Operand}(hd:∀t,dst=some t->t<n)(hx:Zax x=true)(hc:(Zfx S.objs dst (S.ev x).cells?).1):
  ZaJ P B X w0 n ⟨dst, .box T x,ty,pos,af,gd⟩ (S.app dst (Zfx S.objs dst (S.ev x).cells?).2) a w:=by
 have hp:=hS.ev hx;unfold Zfx at hc|-;cases dst with
 |none=>exact hc.elim
 |some t=>
  cases hcs:(S.ev x).cells? with
  |none=>rw[hcs]at hc;exact hc.elim
  |some cs=>
   rw[hcs]at hc;obtain⟨h1,h2,h3⟩:=hp.cells hcs;exact ZoE (P:=P) (o:=⟨some t, .box T x,ty,pos,af,gd⟩) hS rfl (hd t rfl) hc _ (a.eval x).cells T (by simp[execOp,Instr.box,newVar,newRow]) h1 h2 h3
theorem Zif {α:Type}(cs:List α)(c:Nat)(xs:List α)(h:c+xs.length<=cs.length)(j:Nat):
  (ZbE cs c xs)[j]? =if j<c then cs[j]? else if j<c+xs.length then xs[j-c]? else cs[j]? :=by
 unfold ZbE;rw[yP,gT];simp only[uS,jA (show c<=cs.length by omega)];split
 ·rw[An (by assumption)]
 ·rw[gT];split
  ·rw[if_pos (by omega)]
  ·rw[if_neg (by omega),qZ]
   congr 1;omega
theorem Zj7 (w:World)(g:Nat)(cs:Array Value):(w.setRow g cs).heap.size=w.heap.size:=by simp[World.setRow]
theorem ZeL (arr:Array Value)(p:Nat)(vs:List Value)(h:p+vs.length<=arr.size)(j:Nat):
  ((arr.toList.take p++vs++arr.toList.drop (p+vs.length)).toArray)[j]? =if j<p then arr[j]? else if j<p+vs.length then vs[j-p]? else arr[j]? :=by
 have:=Zif arr.toList p vs (by simpa using h) j;simp only[ZbE]at this;rw[kH,this];simp only[qM]
theorem ZcR (arr:Array Value)(p:Nat)(vs:List Value)(h:p+vs.length<=arr.size):((arr.toList.take p++vs++arr.toList.drop (p+vs.length)).toArray).size=arr.size:=by
 simp;omega
theorem ZoF (hS:Hold B X w0 n S a w ι){o:Oper}(hdst:o.dst=none){q b:Nat}{arr:Array Value}{T:TypeId}(hlive:S.objs q≠ .gone)(hι:ι q=some b)(hb:w.heap[b]? =some (.cells arr T (0,0)))
  (p:Nat)(vs:List Value)(hlen:p+vs.length<=arr.size)(ob:Ob)
  (hr:(execOp a.eval o).run P w= .ok .skip (w.setRow b (arr.toList.take p++vs++arr.toList.drop (p+vs.length)).toArray))
  (hob:Ob.At (w.setRow b (arr.toList.take p++vs++arr.toList.drop (p+vs.length)).toArray) ι X q ob):
  ZaJ P B X w0 n o (S.app o.dst {val:= .unk,wr:=[(q,ob)]}) a w:=by
 have h1:=hS.change (some b) q ob ι (w.setRow b (arr.toList.take p++vs++arr.toList.drop (p+vs.length)).toArray) rfl rfl rfl (by simp) (λ _ _=>rfl) (λ _ h=>h)
  (λ b' hb'=>by
   cases hb';exact⟨⟨q,hι⟩,λ o' hne hg ho'=>hne (hS.inj o' q b hg hlive ho' hι),by simp only[bsz,hb,setRow_heap w b arr _ T (0,0) hb,ZcR arr p vs hlen]⟩)
  (λ b' _ hne=>setRow_other w b b' _ (λ he=>hne (by rw[he])))
  (λ b' hb'=>⟨.inl ⟨hb',hlive⟩,by rw[Zj7];exact(hS.free q b' hb').2⟩) hob
 refine⟨undef,_,ι, .inr ⟨hr,rfl⟩,?_⟩;rw[hdst];exact h1
theorem PV.At.store (_hS:Hold B X w0 n S a w ι){q b:Nat}{arr arr':Array Value}{T:TypeId}(hι:ι q=some b)(hb:w.heap[b]? =some (.cells arr T (0,0)))(hsz:arr'.size=arr.size)
  {p:PV}{v:Value}(hp:PV.At w ι X p v):PV.At (w.setRow b arr') ι X p v:=by
 refine hp.move (λ o b' hb'=>⟨hb',?_⟩) (λ b' hb'=> .inl hb') (λ b' hlt hne=>setRow_other w b b' _ (λ he=>hne (.inr ⟨q,he▸hι⟩)));by_cases he:b'=b
 ·subst he;simp only[bsz,hb,setRow_heap w b' arr _ T (0,0) hb,hsz]
 ·simp only[bsz,setRow_other w b b' _ he]
theorem D.At.store (hS:Hold B X w0 n S a w ι){q b:Nat}{arr arr':Array Value}{T:TypeId}(hι:ι q=some b)(hb:w.heap[b]? =some (.cells arr T (0,0)))(hsz:arr'.size=arr.size)
  {p:D}{v:Value}(hp:D.At w (ownX ι X) p v):D.At (w.setRow b arr') (ownX ι X) p v:=by
 have:=PV.At.store hS hι hb hsz (.d _ _ hp);cases this;assumption
theorem Zu9 {vs:List PV}{ds:List D}(h:vs.mapM PV.asD=some ds):ds.length=vs.length/\∀(j:Nat) d,ds[j]? =some d->∃p,vs[j]? =some p/\p.asD=some d:=by
 induction vs generalizing ds with
 |nil=>simp at h;subst h;simp
 |cons p vs ih=>
  simp only[jT]at h;cases hp:p.asD with
  |none=>rw[hp]at h;cases h
  |some d=>
   rw[hp]at h;cases hr:vs.mapM PV.asD with
   |none=>rw[hr]at h;cases h
   |some r=>
    rw[hr]at h;cases h;obtain⟨h1,h2⟩:=ih hr;refine⟨by simp[h1],λ j e he=>?_⟩;cases j with
    |zero=>simp at he;subst he;exact⟨p,rfl,hp⟩
    |succ j=>simp at he;obtain⟨q,hq,hqe⟩:=h2 j e he;exact⟨q,by simpa using hq,hqe⟩
theorem PV.At.asD {p:PV}{v:Value}{d:D}(h:PV.At w ι X p v)(hd:p.asD=some d):D.At w (ownX ι X) d v:=by
 cases h with
 |d x v h=>cases hd;exact h
 |nilS=>cases hd;exact .slnil none 0
 |z0 base=>cases hd;exact .slnil base 0
 |_=>cases hd
theorem Zvl {x:D}{cs:List D}(hl:cs.length=x.cells.length)(h1:∀d,cs=[d]->d.cells=[d]):(mkD x cs).cells=cs:=by
 unfold mkD;split
 ·rfl
 ·rename_i hx;have:cs.length=1:=by rw[hl];cases x<;>first|rfl|exact absurd rfl (hx _)
  match cs,this with
  |[d],_=>exact h1 d rfl
theorem Zyy (hS:Hold B X w0 n S a w ι){T:TypeId}{x y:Operand}(hdn:dst=none)(hx:Zax x=true)(hy:Zax y=true)
  (hc:(ZdR (tyi P T) S.objs (S.ev x) (S.ev y).cells?).1):ZaJ P B X w0 n ⟨dst, .store T x y,ty,pos,af,gd⟩ (S.app dst (ZdR (tyi P T) S.objs (S.ev x) (S.ev y).cells?).2) a w:=by
 have hp:=hS.ev hx;have hq:=hS.ev hy;generalize S.ev x=p at hc hp;unfold ZdR at hc|-;split at hc
 ·rename_i o sz i c vs hcs;obtain⟨hvl,hok,hc⟩:=hc;simp only;obtain⟨q1,q2,q3⟩:=hq.cells hcs;generalize hva:a.eval x=va at hp;cases hp with
  |ptr o sz i c b hι=>
   have hob:=hS.objs o;generalize hgo:S.objs o=ob at hob hc;have hone':∀v∈(a.eval y).cells.toList,v.oneCell'=true:=λ v hv=>by
    obtain⟨j,hj⟩:=yW hv;exact q2 j v (by simpa using hj)
   have hlen:(a.eval y).cells.toList.length=vs.length:=by simpa using q1
   have run:∀(arr:Array Value) (T':TypeId),w.heap[b]? =some (.cells arr T' (0,0))->i*sz+c+vs.length<=arr.size->
     (execOp a.eval ⟨dst, .store T x y,ty,pos,af,gd⟩).run P w= .ok .skip (w.setRow b (arr.toList.take (i*sz+c)++(a.eval y).cells.toList++arr.toList.drop (i*sz+c+(a.eval y).cells.toList.length)).toArray):=by
    intro arr T' hb hl;have hst:=run_storeCells_at P b (i*sz+c) T' (a.eval y).cells.toList 0 arr w hb (by rw[hlen];omega) hone';have hcs':(a.eval y).cells.size=P.cellsOf T:=by simp[tyi]at hvl;omega
    simp only[execOp,Instr.storeAt,hva,Instr.sureAddr,Sem.run_bind,Sem.run_pure,Result.andThen_ok,storeVar,Zqy hok,hcs',ne_eq,not_true_eq_false,jE,hst,gH]
   cases hob with
   |dead h=>exact hc.elim
   |gone=>exact hc.elim
   |imap=>exact hc.elim
   |iter=>exact hc.elim
   |row0 sz' h=>rw[h]at hι;cases hι
   |cells cs b' arr T' hι' hb hsz hone h=>
    rw[hι]at hι';cases hι';simp only[ZiR]at hc|-;have run:=run arr T' hb;generalize i*sz+c=r at hc run|-;have hl:=hc;have hl':r+vs.length<=arr.size:=by omega
    have hls:r+(a.eval y).cells.toList.length<=arr.size:=by rw[hlen];exact hl'
    refine ZoF (P:=P) (o:=⟨dst, .store T x y,ty,pos,af,gd⟩) hS hdn (by rw[hgo];simp) hι hb r (a.eval y).cells.toList hls _ (run hl') ?_;refine .cells _ b _ T' hι (setRow_heap w b arr _ T' (0,0) hb) ?_ (λ j v hj=>?_) (λ j p v hj hv=>?_)
    ·rw[ZcR _ _ _ hls];simp[ZbE];omega
    ·rw[ZeL _ _ _ hls]at hj;split at hj
     ·exact hone j v hj
     ·split at hj
      ·exact hone' v (uA hj)
      ·exact hone j v hj
    ·refine PV.At.store hS hι hb (ZcR _ _ _ hls) ?_;rw[Zif cs r vs hl]at hj;rw[ZeL _ _ _ hls]at hv;simp only[hlen]at hv;split at hj
     ·rename_i hlt;rw[if_pos hlt]at hv;exact h j p v hj hv
     ·rename_i hlt;rw[if_neg hlt]at hv;split at hj
      ·rename_i hlt2;rw[if_pos hlt2]at hv;exact q3 (j-r) p v hj (by simpa using hv)
      ·rename_i hlt2;rw[if_neg hlt2]at hv;exact h j p v hj hv
   |row sz' l b' arr T' hι' hb hsz hcl hone h=>
    rw[hι]at hι';cases hι';simp only[ZiR]at hc|-;cases hds:vs.mapM PV.asD with
    |none=>rw[hds]at hc;exact hc.elim
    |some ds=>
     rw[hds]at hc;obtain⟨rfl,hi,hl⟩:=hc;have hli:l[i]? =some l[i]:=uL hi;simp only[hli,yQ]at hl|-;obtain⟨hdl,hda⟩:=Zu9 hds;have hcs:l[i].cells.length=sz:=hcl _ (jN hi);have hroom:i*sz+sz<=arr.size:=by
      have:(i+1)*sz<=l.length*sz:=yF _ hi;rw[qE]at this;omega
     have hl':i*sz+c+vs.length<=arr.size:=by omega
     have hls:i*sz+c+(a.eval y).cells.toList.length<=arr.size:=by rw[hlen];exact hl'
     have hat:∀(j:Nat) d v,ds[j]? =some d->(a.eval y).cells[j]? =some v->D.At w (ownX ι X) d v:=λ j d v hj hv=>by
      obtain⟨p,hp,hpd⟩:=hda j d hj;exact(q3 j p v hp hv).asD hpd
     have hmk:(mkD l[i] (ZbE l[i].cells c ds)).cells=ZbE l[i].cells c ds:=by
      refine Zvl (by simp[ZbE];omega) (λ d hd=>?_);by_cases hz:ds.length=0
      ·
       have h0:l[i].cells=[d]:=by
        rw[<-hd];unfold ZbE;have:ds=[]:=qF hz;subst this;simp
       have hdi:l[i].cells[0]? =some d:=by rw[h0];rfl
       have hs1:sz=1:=by rw[<-hcs,h0];rfl
       have hlt:i*sz+0<arr.size:=by omega
       exact(h i _ 0 d _ hli hdi (uT hlt)).single (hone _ _ (uT hlt))
      ·have hlen1:(ZbE l[i].cells c ds).length=1:=by rw[hd];rfl
       have hs1:l[i].cells.length=1:=by simp[ZbE]at hlen1;omega
       have hc0:c=0:=by omega
       have hd1:ds.length=1:=by omega
       subst hc0;have:ds=[d]:=by
        rw[<-hd];unfold ZbE;have:l[i].cells.drop (0+ds.length)=[]:=jZ (by omega);rw[this];simp
       have hv0:(a.eval y).cells[0]? =some ((a.eval y).cells[0]'(by omega)):=uT _;exact(hat 0 d _ (by rw[this];rfl) hv0).single (q2 0 _ hv0)
     refine ZoF (P:=P) (o:=⟨dst, .store T x y,ty,pos,af,gd⟩) hS hdn (by rw[hgo];simp) hι hb (i*sz+c) (a.eval y).cells.toList hls _ (run arr T' hb hl') ?_;refine .row sz _ b _ T' hι (setRow_heap w b arr _ T' (0,0) hb) ?_ (λ d hd=>?_) (λ j v hj=>?_) (λ i' d j e v hi' hj hv=>?_)
     ·rw[ZcR _ _ _ hls];simpa using hsz
     ·rcases kD hd with hd|rfl
      ·exact hcl d hd
      ·rw[hmk];simp[ZbE];omega
     ·rw[ZeL _ _ _ hls]at hj;split at hj
      ·exact hone j v hj
      ·split at hj
       ·exact hone' v (uA hj)
       ·exact hone j v hj
     ·refine D.At.store hS hι hb (ZcR _ _ _ hls) ?_;rw[ZeL _ _ _ hls]at hv;rw[hlen]at hv;by_cases hii:i'=i
      ·subst hii;rw[kW hi]at hi';cases hi';rw[hmk,Zif _ c ds hl]at hj;split at hj
       ·rw[if_pos (by omega)]at hv;exact h i' _ j e v hli hj hv
       ·rw[if_neg (by omega)]at hv;split at hj
        ·rw[if_pos (by omega)]at hv;exact hat (j-c) e v hj (by rw[<-qM];rw[show i'*sz+j-(i'*sz+c)=j-c by omega]at hv;exact hv)
        ·rw[if_neg (by omega)]at hv;exact h i' _ j e v hli hj hv
      ·rw[kL (Ne.symm hii)]at hi';have hjs:j<sz:=by
        have:=(uB.1 hj).1;rw[hcl d (uA hi')]at this;exact this
       have hout:i'*sz+j<i*sz+c\/i*sz+c+vs.length<=i'*sz+j:=by
        rcases Nat.lt_or_gt_of_ne hii with hlt|hgt
        ·left
         have:(i'+1)*sz<=i*sz:=yF _ hlt;rw[qE]at this;omega
        ·right
         have:(i+1)*sz<=i'*sz:=yF _ hgt;rw[qE]at this;omega
       rcases hout with ho|ho
       ·rw[if_pos ho]at hv;exact h i' d j e v hi' hj hv
       ·rw[if_neg (by omega),if_neg (by omega)]at hv;exact h i' d j e v hi' hj hv
 ·exact hc.elim
end hold
end Go.PS
